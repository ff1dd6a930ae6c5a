/-
  The executor is right: operations that write, calls, regions, code. The executor is right: steps and regions.
-/
import Derived.Test.YtpdaigenffecmaaM01
import Derived.Test.YtpdaigenffecmaaM37
set_option linter.all false
namespace Go.Proofs.Ytpdaigenffecmaa
open Go Go.RowKit

/-- What is known: the cells; that those that may be written are new and soft; that names are apart; that all else is as before. -/
structure Rel (ρ : Nat → Int) (n0 : Nat) (w0 : World) (s : Nat → Nat) (m : Mem) (w : World) : Prop where
  cells : Cells ρ s m w
  here : ∀ b x, m.get b = some x → s b < w.heap.size
  soft : ∀ b x, m.get b = some x → x.wr = true → n0 ≤ s b ∧ ∀ j, j < x.cs.length → w.frozen? ⟨s b, j, none⟩ = false
  inj : ∀ b b' x x', m.get b = some x → m.get b' = some x' → s b = s b' → b = b'
  wf : ∀ b x, m.get b = some x → x.cs.all (CV.wf m) = true
  below : Below n0 w0 w
  size : n0 ≤ w.heap.size
  glob : Gl s

section
variable {P : Program} {ρ : Nat → Int} {n0 : Nat} {w0 : World} {s s' : Nat → Nat} {m m' : Mem} {w w' : World} {fr : Frm} {T : Tab}

theorem has_of_get {b : Nat} {x : Blk} (h : m.get b = some x) : m.has b = true := by unfold Mem.has; split; rfl; simp [h]
theorem new_name {b : Nat} (h : m.has b = false) : b < 1000000 := by
  unfold Mem.has at h
  split at h
  · cases h
  · rename_i hb; simp only [Nat.ble_eq] at hb; omega

theorem Rel.drew (h : Rel ρ n0 w0 s m w) : Rel ρ n0 w0 s m w.drew :=
  ⟨h.cells, h.here, h.soft, h.inj, h.wf, h.below.drew, h.size, h.glob⟩

/-- Behind a call that leaves what was as it was. -/
theorem Rel.call (h : Rel ρ n0 w0 s m w) (hb : Below w.heap.size w w') : Rel ρ n0 w0 s m w' where
  cells b x hx j c hc := (hb.cell (p := ⟨s b, j, none⟩) (h.here b x hx)).trans (h.cells b x hx j c hc)
  here b x hx := Nat.lt_of_lt_of_le (h.here b x hx) hb.size
  soft b x hx hw := ⟨(h.soft b x hx hw).1, fun j hj => (hb.frozen (p := ⟨s b, j, none⟩) (h.here b x hx)).trans ((h.soft b x hx hw).2 j hj)⟩
  inj := h.inj
  wf := h.wf
  below := h.below.trans (hb.mono h.size)
  size := Nat.le_trans h.size hb.size
  glob := h.glob

/-- A new block under a new name. -/
theorem Rel.put {nm : Nat} {B : Nat} {wr : Bool} {cs : List CV} (h : Rel ρ n0 w0 s m w) (hb : Below w.heap.size w w') (hnm : m.has nm = false) (hB : w.heap.size ≤ B) (hB' : B < w'.heap.size)
    (hwf : cs.all (CV.wf m) = true) (hc : ∀ j c, cs[j]? = some c → w'.cell? ⟨B, j, none⟩ = some (γC ρ s c)) (hf : wr = true → ∀ j, j < cs.length → w'.frozen? ⟨B, j, none⟩ = false) :
    ∃ s', Ext m s s' ∧ s' nm = B ∧ Rel ρ n0 w0 s' (m.put ⟨nm, wr, cs⟩) w' := by
  have h' := h.call hb
  refine ⟨fun b => if b = nm then B else s b, ?_, by simp, ?_⟩
  · intro b hb
    have : b ≠ nm := fun e => by rw [e, hnm] at hb; cases hb
    simp [this]
  have ext : Ext m s (fun b => if b = nm then B else s b) := by
    intro b hb
    have : b ≠ nm := fun e => by rw [e, hnm] at hb; cases hb
    simp [this]
  have hg : Grows m (m.put ⟨nm, wr, cs⟩) := grows_put m _
  have get : ∀ b x, (m.put ⟨nm, wr, cs⟩).get b = some x → (b = nm ∧ x = ⟨nm, wr, cs⟩) ∨ (b ≠ nm ∧ m.get b = some x) := by
    intro b x hx
    rw [Mem.get_put] at hx
    by_cases e : nm = b
    · rw [if_pos e] at hx; cases hx; exact .inl ⟨e.symm, rfl⟩
    · rw [if_neg e] at hx; exact .inr ⟨fun k => e k.symm, hx⟩
  have hglob : Gl (fun b => if b = nm then B else s b) := by
    intro g
    have := new_name hnm
    have e : 1000000 + g ≠ nm := by omega
    simp only [if_neg e]
    exact h.glob g
  refine ⟨?_, ?_, ?_, ?_, ?_, h'.below, h'.size, hglob⟩
  · intro b x hx j c hj
    rcases get b x hx with ⟨rfl, rfl⟩ | ⟨hne, hx⟩
    · have hcw : c.wf m = true := List.all_eq_true.1 hwf c (List.mem_of_getElem? hj)
      simp only [if_true, hc j c hj, γC_ext ext hcw]
    · have hcw : c.wf m = true := List.all_eq_true.1 (h.wf b x hx) c (List.mem_of_getElem? hj)
      simp only [if_neg hne, h'.cells b x hx j c hj, γC_ext ext hcw]
  · intro b x hx
    rcases get b x hx with ⟨rfl, rfl⟩ | ⟨hne, hx⟩
    · simpa using hB'
    · simpa [hne] using h'.here b x hx
  · intro b x hx hw
    rcases get b x hx with ⟨rfl, rfl⟩ | ⟨hne, hx⟩
    · simp only [if_true]; exact ⟨Nat.le_trans h.size hB, hf hw⟩
    · simp only [if_neg hne]; exact h'.soft b x hx hw
  · intro b b' x x' hb1 hb2 e
    rcases get b x hb1 with ⟨rfl, _⟩ | ⟨h1, h1'⟩ <;> rcases get b' x' hb2 with ⟨rfl, _⟩ | ⟨h2, h2'⟩
    · rfl
    · simp [h2] at e; have := h.here b' x' h2'; omega
    · simp [h1] at e; have := h.here b x h1'; omega
    · simp [h1, h2] at e; exact h.inj b b' x x' h1' h2' e
  · intro b x hx
    rcases get b x hx with ⟨rfl, rfl⟩ | ⟨hne, hx⟩
    · exact CVs_wf_grows hg hwf
    · exact CVs_wf_grows hg (h.wf b x hx)

theorem below_alloc (w : World) (o : Obj) : Below w.heap.size w (w.alloc o) := (Below.refl _ _).alloc (Nat.le_refl _) _
theorem Rel.alloc {nm : Nat} {cs : List CV} {t : TypeId} (h : Rel ρ n0 w0 s m w) (hnm : m.has nm = false) (hwf : cs.all (CV.wf m) = true) :
    ∃ s', Ext m s s' ∧ s' nm = w.heap.size ∧ Rel ρ n0 w0 s' (m.put ⟨nm, true, cs⟩) (w.alloc (.cells (cs.map (γC ρ s)).toArray t)) := by
  refine h.put (below_alloc _ _) hnm (Nat.le_refl _) (by simp) hwf ?_ ?_
  · intro j c hj
    rw [World.cell?_alloc_at _ _ _ _ rfl]; simp [hj]
  · intro _ j _
    exact World.frozen?_alloc_at _ _ _ _ rfl

/-! ### Stores -/
theorem one_of_γC (c : CV) : (γC ρ s c).oneCell' = true := by cases c <;> rfl
/-- Cells stored one by one. -/
theorem run_storeFrom (B off : Nat) : ∀ (vs : List CV) (i : Nat) (w : World), (∀ j, j < vs.length → (∃ u, w.cell? ⟨B, off + i + j, none⟩ = some u) ∧ w.frozen? ⟨B, off + i + j, none⟩ = false) → n0 ≤ B →
    ∃ w', (storeCells ⟨B, off, none⟩ (vs.map (γC ρ s)) i).run P w = .ok () w' ∧ w'.heap.size = w.heap.size ∧ Below n0 w w' ∧
      (∀ a, (∀ j, j < vs.length → a ≠ ⟨B, off + i + j, none⟩) → w'.cell? a = w.cell? a) ∧ (∀ a, w'.frozen? a = w.frozen? a) ∧
      (∀ j c, vs[j]? = some c → w'.cell? ⟨B, off + i + j, none⟩ = some (γC ρ s c))
  | [], i, w, _, _ => ⟨w, by simp [storeCells], rfl, Below.refl _ _, fun _ _ => rfl, fun _ => rfl, fun j c h => by simp at h⟩
  | v :: vs, i, w, h, hB => by
    obtain ⟨⟨u, hu⟩, hf⟩ := h 0 (by simp)
    simp only [Nat.add_zero] at hu hf
    have hadd : (⟨B, off, none⟩ : Addr).add i = ⟨B, off + i, none⟩ := add_plain _ rfl i
    have hst : (store ⟨B, off + i, none⟩ (γC ρ s v)).run P w = .ok () (w.setCell ⟨B, off + i, none⟩ (γC ρ s v)) := by
      rw [run_store P w _ _ _ (one_of_γC v), hu]; simp [hf]
    have hfz : ∀ a, (w.setCell ⟨B, off + i, none⟩ (γC ρ s v)).frozen? a = w.frozen? a := fun a => by simp
    have hcell : ∀ a, a ≠ ⟨B, off + i, none⟩ → (w.setCell ⟨B, off + i, none⟩ (γC ρ s v)).cell? a = w.cell? a := fun a ha => World.cell?_setCell_other w _ _ _ (fun e => ha e.symm)
    obtain ⟨w', h1, h2, h3, h4, h5, h6⟩ := run_storeFrom B off vs (i + 1) (w.setCell ⟨B, off + i, none⟩ (γC ρ s v)) (fun j hj => by
      obtain ⟨⟨u', hu'⟩, hf'⟩ := h (j + 1) (by simp; omega)
      have e : off + (i + 1) + j = off + i + (j + 1) := by omega
      rw [e, hfz, hcell _ (by simp)]
      exact ⟨⟨u', hu'⟩, hf'⟩) hB
    refine ⟨w', ?_, ?_, ?_, ?_, ?_, ?_⟩
    · simp only [List.map_cons, storeCells, Sem.run_bind, hadd, hst, Result.andThen_ok, h1]
    · rw [h2]; simp
    · exact ((Below.refl _ _).setCell (p := ⟨B, off + i, none⟩) hB _).trans h3
    · intro a ha
      rw [h4 a (fun j hj => by have := ha (j + 1) (by simp; omega); rwa [show off + (i + 1) + j = off + i + (j + 1) from by omega])]
      exact hcell a (by have := ha 0 (by simp); simpa using this)
    · intro a; rw [h5, hfz]
    · intro j c hj
      cases j with
      | zero =>
        simp at hj; subst hj
        simp only [Nat.add_zero]
        rw [h4 _ (fun j hj => by simp)]
        exact World.cell?_setCell_same w _ _ hu
      | succ j =>
        have := h6 j c (by simpa using hj)
        rwa [show off + i + (j + 1) = off + (i + 1) + j from by omega]

theorem Rel.store {t : TypeId} {b off : Nat} {v : TV} (h : Rel ρ n0 w0 s m w) (hs : storeA P m t b off v = some m') (hv : v.cells.all (CV.wf m) = true) :
    Grows m m' ∧ ∃ w', (Instr.storeAt t (.pointer (some ⟨s b, off, none⟩)) (γT ρ s v)).run P w = .ok () w' ∧ Rel ρ n0 w0 s m' w' := by
  unfold storeA at hs
  cases hx : m.get b with
  | none => simp [hx] at hs
  | some x =>
    simp only [hx] at hs
    cases hn : sizeB P t with
    | none => simp [hn] at hs
    | some n =>
      simp only [hn] at hs
      split at hs
      · rename_i hc
        simp only [Bool.and_eq_true, Nat.ble_eq] at hc
        obtain ⟨⟨hwr, hl⟩, hle⟩ := hc
        replace hl : v.cells.length = n := Nat.eq_of_beq_eq_true hl
        cases hs
        refine ⟨grows_put m _, ?_⟩
        obtain ⟨hlow, hsoft⟩ := h.soft b x hx hwr
        obtain ⟨w', h1, h2, h3, h4, h5, h6⟩ := run_storeFrom (P := P) (ρ := ρ) (s := s) (n0 := n0) (s b) off v.cells 0 w (fun j hj => by
          have hlt : off + 0 + j < x.cs.length := by omega
          exact ⟨⟨_, h.cells b x hx _ _ (List.getElem?_eq_getElem hlt)⟩, hsoft _ hlt⟩) hlow
        refine ⟨w', ?_, ?_⟩
        · unfold Instr.storeAt Instr.sureAddr storeVar
          have hsz : (γT ρ s v).cells.size = n := by rw [γT_cells]; simp [hl]
          simp only [Sem.run_bind, Sem.run_pure, Result.andThen_ok, run_sizeOf' hn, hsz]
          simp only [ne_eq, not_true_eq_false, if_false, Sem.run_bind, Sem.run_pure, Result.andThen_ok, γT_cells, h1]
        · have hname := Mem.get_name hx
          have get : ∀ c y, (m.put ⟨b, true, splice x.cs off v.cells⟩).get c = some y → (c = b ∧ y = ⟨b, true, splice x.cs off v.cells⟩) ∨ (c ≠ b ∧ m.get c = some y) := by
            intro c y hy
            rw [Mem.get_put] at hy
            by_cases e : b = c
            · rw [if_pos e] at hy; cases hy; exact .inl ⟨e.symm, rfl⟩
            · rw [if_neg e] at hy; exact .inr ⟨fun k => e k.symm, hy⟩
          have hg : Grows m (m.put ⟨b, true, splice x.cs off v.cells⟩) := grows_put m _
          have hlen : (splice x.cs off v.cells).length = x.cs.length := splice_length (by omega)
          refine ⟨?_, ?_, ?_, ?_, ?_, h.below.trans h3, by rw [h2]; exact h.size, h.glob⟩
          · intro c y hy j d hj
            rcases get c y hy with ⟨rfl, rfl⟩ | ⟨hne, hy⟩
            · simp only [splice] at hj
              by_cases hin : off ≤ j ∧ j < off + v.cells.length
              · have hj' : v.cells[j - off]? = some d := by
                  rw [List.append_assoc, List.getElem?_append_right (by simp; omega), List.getElem?_append_left (by simp; omega)] at hj
                  have : j - (x.cs.take off).length = j - off := by simp; omega
                  rwa [this] at hj
                have := h6 (j - off) d hj'
                rwa [show off + 0 + (j - off) = j from by omega] at this
              · have hj' : x.cs[j]? = some d := by
                  by_cases hlt : j < off
                  · rw [List.append_assoc, List.getElem?_append_left (by simp; omega), List.getElem?_take, if_pos hlt] at hj
                    exact hj
                  · rw [List.getElem?_append_right (by simp; omega), List.getElem?_drop] at hj
                    have : off + v.cells.length + (j - (List.take off x.cs ++ v.cells).length) = j := by simp; omega
                    rwa [this] at hj
                rw [h4 _ (fun k hk e => by have e := congrArg Addr.off e; simp only at e; omega)]
                exact h.cells c x hx j d hj'
            · rw [h4 _ (fun k hk => by
                simp
                intro e _
                exact hne (h.inj c b _ _ hy hx e))]
              exact h.cells c y hy j d hj
          · intro c y hy
            rw [h2]
            rcases get c y hy with ⟨rfl, rfl⟩ | ⟨hne, hy⟩
            · exact h.here _ x hx
            · exact h.here _ y hy
          · intro c y hy hw
            rcases get c y hy with ⟨rfl, rfl⟩ | ⟨hne, hy⟩
            · exact ⟨hlow, fun j hj => by rw [h5]; exact hsoft j (by simpa [hlen] using hj)⟩
            · exact ⟨(h.soft c y hy hw).1, fun j hj => by rw [h5]; exact (h.soft c y hy hw).2 j hj⟩
          · intro c d y z hc hd e
            have old : ∀ c y, (m.put ⟨b, true, splice x.cs off v.cells⟩).get c = some y → ∃ y', m.get c = some y' := fun c y hy => by
              rcases get c y hy with ⟨rfl, _⟩ | ⟨_, hy⟩
              · exact ⟨x, hx⟩
              · exact ⟨y, hy⟩
            obtain ⟨y', hy'⟩ := old c y hc
            obtain ⟨z', hz'⟩ := old d z hd
            exact h.inj c d y' z' hy' hz' e
          · intro c y hy
            rcases get c y hy with ⟨rfl, rfl⟩ | ⟨hne, hy⟩
            · refine CVs_wf_grows hg ?_
              have hxw := h.wf _ x hx
              rw [List.all_eq_true] at *
              intro d hd
              simp only [splice, List.mem_append] at hd
              rcases hd with (hd | hd) | hd
              · exact hxw d (List.mem_of_mem_take hd)
              · exact hv d hd
              · exact hxw d (List.mem_of_mem_drop hd)
            · exact CVs_wf_grows hg (h.wf c y hy)
      · cases hs

end
end Go.Proofs.Ytpdaigenffecmaa

namespace Go.Proofs.Ytpdaigenffecmaa
open Go Go.RowKit

section
variable {P : Program} {ρ : Nat → Int} {n0 : Nat} {w0 : World} {s s' : Nat → Nat} {m m' : Mem} {w w' : World} {fr : Frm} {T : Tab}

theorem γ_ptr (b o : Nat) : γ ρ s (.v (.one (.ptr b o))) = .pointer (some ⟨s b, o, none⟩) := rfl
theorem γ_slice (b o l c : Nat) : γ ρ s (.v (.one (.slice b o l c))) = .slice (some ⟨s b, o, none⟩) l c := rfl
theorem mem_ok (h : Rel ρ n0 w0 s m w) (o : Oper) {nm : Nat} {v : AV} (hm : memA P m fr nm o.op = some (v, m')) :
    Grows m m' ∧ ∃ s' w', Ext m s s' ∧ Rel ρ n0 w0 s' m' w' ∧
      ((execOp (act ρ s fr).eval o).run P w = .ok (.value (γ ρ s' v)) w' ∨ (v = nilA ∧ (execOp (act ρ s fr).eval o).run P w = .ok .skip w')) := by
  obtain ⟨dst, op, ty, pos, aft, gd⟩ := o
  unfold memA at hm
  split at hm
  · cases hm
  rename_i hnm
  have hnm : m.has nm = false := by simpa using hnm
  cases op with
  | alloc t =>
    simp only at hm
    cases hz : zeroA P t with
    | none => simp [hz] at hm
    | some z =>
      simp only [hz] at hm
      split at hm
      · rename_i hwf
        cases hm
        refine ⟨grows_put m _, ?_⟩
        obtain ⟨s', h1, h2, h3⟩ := h.alloc (nm := nm) (t := t) hnm hwf
        refine ⟨s', _, h1, h3, .inl ?_⟩
        simp [execOp, Instr.alloc, zero_ok (ρ := ρ) (s := s) hz, newVar, newRow, γT_cells, γ_ptr, h2]
      · cases hm
  | box t x =>
    simp only at hm
    cases hz : evalT fr x with
    | none => simp [hz] at hm
    | some z =>
      simp only [hz] at hm
      split at hm
      · rename_i hwf
        cases hm
        refine ⟨grows_put m _, ?_⟩
        obtain ⟨s', h1, h2, h3⟩ := h.alloc (nm := nm) (t := t) hnm hwf
        refine ⟨s', _, h1, h3, .inl ?_⟩
        simp [execOp, Instr.box, evalT_ok (ρ := ρ) (s := s) h.glob hz, newVar, newRow, γT_cells, γ_ptr, h2]
      · cases hm
  | buildSlice t len parts =>
    simp only at hm
    split at hm
    · rename_i e ps hu hp
      split at hm
      · rename_i n z hn hz
        split at hm
        · rename_i hc
          simp only [Bool.and_eq_true, Nat.ble_eq, Nat.blt_eq] at hc
          obtain ⟨⟨h1, h2⟩, h3⟩ := hc
          replace h3 : z.cells.length = n := Nat.eq_of_beq_eq_true h3
          split at hm
          · rename_i cs hf
            split at hm
            · rename_i hwf
              cases hm
              refine ⟨grows_put m _, ?_⟩
              obtain ⟨s', k1, k2, k3⟩ := h.alloc (nm := nm) (t := e) hnm hwf
              refine ⟨s', _, k1, k3, .inl ?_⟩
              have hfo := fill_ok (ρ := ρ) (s := s) hf
              have hps := evalParts_ok (ρ := ρ) (s := s) h.glob hp
              have hz' : (Array.range (len * n)).map (fun i => (z.cells.map (γC ρ s)).toArray[i % (z.cells.map (γC ρ s)).toArray.size]!) =
                  (((List.range (len * n)).map fun i => z.cells.getD (i % n) .niliface).map (γC ρ s)).toArray := by
                apply Array.ext'
                simp only [Array.toList_map, Array.toList_range, List.map_map, List.size_toArray, List.length_map, h3]
                apply List.map_congr_left
                intro i hi
                have hn0 : 0 < n := Nat.pos_of_ne_zero fun e0 => by simp [e0] at h1
                have hlt : i % n < z.cells.length := by rw [h3]; exact Nat.mod_lt _ hn0
                simp [hlt]
              simp only [execOp, Instr.buildSlice, Sem.run_bind, run_und hu, Result.andThen_ok, run_sizeOf' hn]
              rw [if_neg (by omega)]
              simp only [Sem.run_bind, Result.andThen_ok, Sem.run_pure]
              rw [if_neg (by omega)]
              simp only [Sem.run_bind, zero_ok (ρ := ρ) (s := s) hz, Result.andThen_ok, Sem.run_pure, γT_cells, hz']
              have hpl : (parts.map fun (i, x) => (i, (act ρ s fr).eval x)).toList = ps.map (fun p => (p.1, γT ρ s p.2)) := by rw [← hps]; simp
              simp only [hpl, hfo]
              simp [newRow, γ_slice, k2]
            · cases hm
          · cases hm
        · cases hm
      · cases hm
    · cases hm
  | store t a x =>
    simp only at hm
    split at hm
    · rename_i b off u ha hx
      split at hm
      · rename_i hwf
        cases hs : storeA P m t b off u with
        | none => simp [hs] at hm
        | some m1 =>
          simp [hs] at hm
          obtain ⟨rfl, rfl⟩ := hm
          obtain ⟨hg, w', h1, h2⟩ := h.store hs hwf
          refine ⟨hg, s, w', Ext.refl, h2, .inr ⟨rfl, ?_⟩⟩
          simp only [execOp, Sem.run_bind, evalC_ok (ρ := ρ) (s := s) h.glob ha, evalT_ok (ρ := ρ) (s := s) h.glob hx, γC, h1, Result.andThen_ok, Sem.run_pure]
      · cases hm
    · cases hm
  | _ => cases hm

/-! ### Steps -/
structure FrWf (m : Mem) (fr : Frm) : Prop where
  le : fr.n ≤ 1024
  wf : ∀ i, i < 1024 → (fr.t.get 10 i).wf m = true
theorem FrWf.grows (h : FrWf m fr) (g : Grows m m') : FrWf m' fr := ⟨h.le, fun i hi => AV.wf_grows g (h.wf i hi)⟩
theorem FrWf.at (h : FrWf m fr) {i : Nat} {v : AV} (hv : fr.get? i = some v) : v.wf m = true := by
  obtain ⟨_, h2, e⟩ := get?_some hv
  rw [e]; exact h.wf i h2
theorem act_ext (h : Ext m s s') (hf : FrWf m fr) : act ρ s' fr = act ρ s fr := by
  simp only [act, Act.mk.injEq, and_true]
  congr 1
  apply List.map_congr_left
  intro i hi
  exact γ_ext h (hf.wf i (by have := List.mem_range.1 hi; have := hf.le; omega))
theorem put_ok {st st' : St} {dst : Option Tmp} {v : AV} (h : putA st dst v = some st') (hf : FrWf st.m st.fr) :
    FrWf st'.m st'.fr ∧ st'.m = st.m ∧ ∀ s, (act ρ s st.fr).put dst (γ ρ s v) = act ρ s st'.fr := by
  unfold putA at h
  split at h
  · rename_i hv
    cases dst with
    | none => cases h; exact ⟨hf, rfl, fun s => rfl⟩
    | some d =>
      simp only at h
      split at h
      · rename_i hc
        simp only [Bool.and_eq_true, Nat.blt_eq, Nat.ble_eq] at hc
        cases h
        refine ⟨⟨hf.le, fun i hi => ?_⟩, rfl, fun s => act_put hc.1 hc.2⟩
        rw [Fr.get_set 10 _ d i v hc.1 hi]
        split
        · exact hv
        · exact hf.wf i hi
      · cases h
  · cases h

def CallOk (P : Program) (ρ : Nat → Int) (n0 : Nat) (w0 : World) (call : CallFn) : Prop :=
  ∀ f args m n v m' n', call f args m n = some (v, m', n') → (∀ u ∈ args, u.wf m = true) → Grows m m' ∧
    ∀ s w, Rel ρ n0 w0 s m w → Calls P f (args.map (γ ρ s)).toArray w fun e w' => ∃ s', Ext m s s' ∧ e = .returned (γ ρ s' v) ∧ Rel ρ n0 w0 s' m' w'

theorem evalA_wf (hf : FrWf m fr) {x : Operand} {v : AV} (h : evalA fr x = some v) : v.wf m = true := by
  cases x with
  | tmp t => exact hf.at h
  | const u =>
    simp only [evalA] at h
    have one : ∀ {u : Value} {c : CV}, reifyC u = some c → c.wf m = true := by
      intro u c h
      unfold reifyC at h
      split at h <;> first | (cases h; rfl) | cases h
    have many : ∀ {l : List Value} {cs : List CV}, reifyL l = some cs → cs.all (CV.wf m) = true := by
      intro l
      induction l with
      | nil => intro cs h; simp [reifyL] at h; subst h; rfl
      | cons a l ih =>
        intro cs h
        simp only [reifyL] at h
        split at h
        · rename_i c r h1 h2; cases h; simp [one h1, ih h2]
        · cases h
    cases hr : reifyT u with
    | none => simp [hr] at h
    | some t =>
      simp [hr] at h; subst h
      unfold reifyT at hr
      split at hr
      · rename_i cs
        cases hl : reifyL cs.toList with
        | none => simp [hl] at hr
        | some l => simp [hl] at hr; subst hr; exact many hl
      · cases hl : reifyC u with
        | none => simp [hl] at hr
        | some l => simp [hl] at hr; subst hr; exact one hl
  | global g => simp only [evalA] at h; cases h; show m.has (1000000 + g) = true; unfold Mem.has; rw [if_pos (by rw [Nat.ble_eq]; omega)]
  | func f => cases h; rfl
theorem evalC_wf (hf : FrWf m fr) {x : Operand} {c : CV} (h : evalC fr x = some c) : c.wf m = true := by
  unfold evalC at h
  split at h
  · rename_i e; cases h; exact evalA_wf hf e
  · cases h
theorem evalL_wf (hf : FrWf m fr) : ∀ {l : List Operand} {vs : List AV}, evalL fr l = some vs → ∀ u ∈ vs, u.wf m = true
  | [], vs, h => by simp [evalL] at h; subst h; simp
  | x :: l, vs, h => by
    simp only [evalL] at h
    split at h
    · rename_i v r h1 h2
      cases h
      intro u hu
      rcases List.mem_cons.1 hu with rfl | hu
      · exact evalA_wf hf h1
      · exact evalL_wf hf h2 u hu
    · cases h
theorem ptrsA_ok (l : List (Nat × Nat)) : (ptrsA l).map (γ ρ s) = l.map (γP s) := by simp [ptrsA, γ, γT, γC, γP, Function.comp_def]
theorem target_ok (hg : Gl s) {c : Call} {f : FuncId} {args : List AV} (h : targetA fr c = some (f, args)) (he : enterable P f = true) (dst : Option Tmp) (ty : TypeId) (pos : String) (aft : Array Edge) (gd : Option (Nat × Bool)) :
    (execOp (act ρ s fr).eval ⟨dst, .call c, ty, pos, aft, gd⟩).run P w = .ok (.enter f (args.map (γ ρ s)).toArray) w := by
  obtain ⟨callee, cargs, ctys⟩ := c
  unfold targetA at h
  simp only at h
  split at h
  · rename_i x
    split at h
    · rename_i g a cs vs hx hv
      cases h
      have hx' := evalC_ok (ρ := ρ) (s := s) hg hx
      have hv' := evalL_ok (ρ := ρ) (s := s) hg hv
      unfold enterable at he
      cases hfn : P.funcs[f]? with
      | none => simp [hfn] at he
      | some fn =>
        simp only [hfn, Bool.and_eq_true] at he
        obtain ⟨hb, hname⟩ := he
        have hname' : (fn.name == "runtime.NumGoroutine") = false := by simpa using hname
        have hb' : fn.body.isNone = false := by cases h : fn.body <;> simp_all
        have hargs : (a.map (γP s)).toArray ++ cargs.map (act ρ s fr).eval ++ (cs.map (γP s)).toArray = ((ptrsA a ++ vs ++ ptrsA cs).map (γ ρ s)).toArray := by
          apply Array.ext'
          simp [ptrsA_ok, ← hv']
        simp only [execOp, resolve, hx', γC, Deferred.ofValue, Sem.run_bind, Sem.run_pure, Result.andThen_ok, invoke, callFunc, run_program, hfn, hname', hb', Bool.false_eq_true, if_false, hargs]
    · cases h
  · cases h
theorem target_wf (hf : FrWf m fr) {c : Call} {f : FuncId} {args : List AV} (h : targetA fr c = some (f, args)) : ∀ u ∈ args, u.wf m = true := by
  unfold targetA at h
  split at h
  · split at h
    · rename_i g a cs vs hx hv
      cases h
      have h1 := evalC_wf hf hx
      simp only [CV.wf, Bool.and_eq_true, List.all_eq_true] at h1
      intro u hu
      simp only [List.mem_append, ptrsA, List.mem_map] at hu
      rcases hu with (⟨p, hp, rfl⟩ | hu) | ⟨p, hp, rfl⟩
      · exact h1.1 p hp
      · exact evalL_wf hf hv u hu
      · exact h1.2 p hp
    · cases h
  · cases h

theorem step_ok {call : CallFn} {nm : Nat} {st st' : St} {o : Oper} (hT : TabOp P ρ T) (hcall : CallOk P ρ n0 w0 call) (hf : FrWf st.m st.fr)
    (h : stepA P T call nm st o = some st') : Grows st.m st'.m ∧ FrWf st'.m st'.fr ∧
      ∀ s w (K : Act → World → Prop) (Q : Exit → Act → World → Prop), Rel ρ n0 w0 s st.m w →
        (∀ s' w', Ext st.m s s' → Rel ρ n0 w0 s' st'.m w' → K (act ρ s' st'.fr) w') → o.wp P (act ρ s st.fr) w K Q := by
  unfold stepA at h
  cases hp : pureA P T st.m st.fr o.op with
  | some v =>
    simp only [hp] at h
    obtain ⟨h1, h2, h3⟩ := put_ok (ρ := ρ) h hf
    refine ⟨h2 ▸ Grows.refl, h1, fun s w K Q hr hK => ?_⟩
    unfold Oper.wp
    rw [pure_ok hT hr.glob hr.cells o hp]
    simp only [Oper.upon, h3]
    exact hK s w Ext.refl (h2 ▸ hr)
  | none =>
    simp only [hp] at h
    split at h
    · rename_i c hop
      cases ht : targetA st.fr c with
      | none => simp [ht] at h
      | some q =>
        obtain ⟨f, args⟩ := q
        simp only [ht] at h
        split at h
        · rename_i he
          cases hc : call f args st.m st.n with
          | none => simp [hc] at h
          | some r =>
            obtain ⟨v, m1, n1⟩ := r
            simp only [hc] at h
            obtain ⟨hg, hcalls⟩ := hcall _ _ _ _ _ _ _ hc (target_wf hf ht)
            obtain ⟨h1, h2, h3⟩ := put_ok (ρ := ρ) h (hf.grows hg)
            simp only at h1 h2 h3
            refine ⟨h2 ▸ hg, h1, fun s w K Q hr hK => ?_⟩
            unfold Oper.wp
            obtain ⟨dst, op, ty, pos, aft, gd⟩ := o
            simp only at hop
            subst hop
            rw [target_ok hr.glob ht he]
            simp only [Oper.upon]
            refine (hcalls s w hr).mono fun e w' ⟨s', he', hv, hr'⟩ => ?_
            subst hv
            simp only
            have := hK s' w' he' (h2 ▸ hr')
            rwa [← h3, act_ext he' hf] at this
        · cases h
    · rename_i op hop
      cases hm : memA P st.m st.fr nm o.op with
      | none => simp [hm] at h
      | some r =>
        obtain ⟨v, m1⟩ := r
        simp only [hm] at h
        have hg : Grows st.m m1 := by
          unfold memA at hm
          split at hm
          · cases hm
          · split at hm
            · split at hm
              · split at hm
                · cases hm; exact grows_put _ _
                · cases hm
              · cases hm
            · split at hm
              · split at hm
                · cases hm; exact grows_put _ _
                · cases hm
              · cases hm
            · split at hm
              · split at hm
                · split at hm
                  · split at hm
                    · split at hm
                      · cases hm; exact grows_put _ _
                      · cases hm
                    · cases hm
                  · cases hm
                · cases hm
              · cases hm
            · split at hm
              · split at hm
                · simp only [Option.map_eq_some_iff] at hm
                  obtain ⟨m2, hs, he⟩ := hm
                  cases he
                  unfold storeA at hs
                  split at hs
                  · cases hs
                  · split at hs
                    · split at hs
                      · cases hs; exact grows_put _ _
                      · cases hs
                    · cases hs
                · cases hm
              · cases hm
            · cases hm
        obtain ⟨h1, h2, h3⟩ := put_ok (ρ := ρ) h (hf.grows hg)
        simp only at h1 h2 h3
        refine ⟨h2 ▸ hg, h1, fun s w K Q hr hK => ?_⟩
        obtain ⟨_, s', w', he, hr', hrun⟩ := mem_ok (fr := st.fr) hr o hm
        have hk := hK s' w' he (h2 ▸ hr')
        rw [← h3, act_ext he hf] at hk
        unfold Oper.wp
        rcases hrun with hrun | ⟨rfl, hrun⟩
        · rw [hrun]; exact hk
        · rw [hrun]; exact hk

/-! ### Regions -/
theorem yielded_none {i : Nat} (h : fr.get? i = none) (hf : fr.n ≤ 1024) : (act ρ s fr).tmps[i]? = none := by
  unfold Frm.get? at h
  split at h
  · cases h
  · rename_i hc
    simp only [Bool.and_eq_true, Nat.blt_eq] at hc
    simp [act]; omega
theorem yielded_ok (hf : fr.n ≤ 1024) (ops : Array Oper) (j : Nat) (hs : ∀ n, ((ops[j]?).bind (·.dst)).bind (fr.get? ·) ≠ some (.v (.one (.bsym n)))) : yielded ops (act ρ s fr).tmps j = yieldedA ops fr j := by
  unfold yielded yieldedA
  cases h : (ops[j]?).bind (·.dst) with
  | none => rfl
  | some d =>
    simp only [Option.bind_some]
    cases hd : fr.get? d with
    | none => rw [yielded_none hd hf]
    | some v =>
      rw [tmps_at hd]
      cases v with
      | tup l => rfl
      | v t =>
        cases t with
        | agg l => rfl
        | one c =>
          cases c with
          | bsym n => exact absurd (by rw [h]; simpa using hd) (hs n)
          | _ => rfl
theorem wanted_ok (hf : fr.n ≤ 1024) (ops : Array Oper) (o : Oper) (hs : sureA ops fr o = true) : Region.wanted o (yielded ops (act ρ s fr).tmps) = wantedA ops fr o := by
  unfold wantedA Region.wanted
  unfold sureA at hs
  cases hg : o.guard with
  | none => rfl
  | some p =>
    rw [hg] at hs
    simp only
    rw [yielded_ok hf]
    intro n e
    simp only [e] at hs
    cases hs
theorem nil_γ : γ ρ s nilA = undef := rfl

theorem list_ok {call : CallFn} {ops : Array Oper} (hT : TabOp P ρ T) (hcall : CallOk P ρ n0 w0 call) : ∀ {l : List Oper} {st st' : St}, FrWf st.m st.fr →
    listA P T call ops l st = some st' → Grows st.m st'.m ∧ FrWf st'.m st'.fr ∧
      ∀ s w (Q : Exit → Act → World → Prop), Rel ρ n0 w0 s st.m w →
        (∀ s' w', Ext st.m s s' → Rel ρ n0 w0 s' st'.m w' → Q .normal (act ρ s' st'.fr) w') → wpList P ops Q l (act ρ s st.fr) w
  | [], st, st', hf, h => by
    simp [listA] at h; subst h
    exact ⟨Grows.refl, hf, fun s w Q hr hQ => hQ s w Ext.refl hr⟩
  | o :: l, st, st', hf, h => by
    simp only [listA] at h
    split at h
    · cases h
    rename_i hsu
    replace hsu : sureA ops st.fr o = true := by simpa using hsu
    split at h
    · rename_i hw
      cases hs : stepA P T call st.n { st with n := st.n + 1 } o with
      | none => simp [hs] at h
      | some st1 =>
        simp only [hs] at h
        obtain ⟨g1, f1, k1⟩ := step_ok (st := { st with n := st.n + 1 }) hT hcall hf hs
        simp only at g1 f1 k1
        obtain ⟨g2, f2, k2⟩ := list_ok hT hcall f1 h
        refine ⟨g1.trans g2, f2, fun s w Q hr hQ => ?_⟩
        simp only [wpList, wanted_ok hf.le _ _ hsu, hw, if_true]
        exact .inl (k1 s w _ Q hr fun s1 w1 e1 r1 => k2 s1 w1 Q r1 fun s2 w2 e2 r2 => hQ s2 w2 (e1.trans g1 e2) r2)
    · rename_i hw
      cases hs : putA st o.dst nilA with
      | none => simp [hs] at h
      | some st1 =>
        simp only [hs] at h
        obtain ⟨f1, m1, p1⟩ := put_ok (ρ := ρ) hs hf
        obtain ⟨g2, f2, k2⟩ := list_ok hT hcall f1 h
        rw [m1] at g2 k2
        refine ⟨g2, f2, fun s w Q hr hQ => ?_⟩
        have hw' : wantedA ops st.fr o = false := by simpa using hw
        simp only [wpList, wanted_ok hf.le _ _ hsu, hw', Bool.false_eq_true, if_false]
        rw [← nil_γ (ρ := ρ) (s := s), p1]
        exact k2 s w Q hr hQ

end
end Go.Proofs.Ytpdaigenffecmaa
