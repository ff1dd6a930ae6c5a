/-
  The executor is right: operations that write, calls, regions, code. The executor is right: steps and regions. The executor is right: regions that draw their order, code, calls.
-/
import Derived.Test.YtpdaigenffecmaaM01
import Derived.Test.YtpdaigenffecmaaM34
set_option linter.all false
namespace Go.Proofs.Ytpdaigenffecmaa
open Go Go.RowKit

/-- What is known: the cells; that those that may be written are new and soft; that names are apart; that all else is as before. -/
structure Rel (ρ : Nat → Int) (n0 : Nat) (w0 : World) (s : Nat → Nat) (m : Mem) (w : World) : Prop where
  cells : Cells ρ s m w
  here : ∀ b x, m.get b = some x → s b < w.heap.size
  soft : ∀ b x, m.get b = some x → x.wr = true → n0 ≤ s b ∧ ∀ j, j < x.cs.length → w.frozen? ⟨s b, j, none⟩ = false
  inj : ∀ b b', m.has b = true → m.has b' = true → s b = s b' → b = b'
  wf : ∀ b x, m.get b = some x → x.cs.all (CV.wf m) = true
  below : Below n0 w0 w
  size : n0 ≤ w.heap.size

section
variable {P : Program} {ρ : Nat → Int} {n0 : Nat} {w0 : World} {s s' : Nat → Nat} {m m' : Mem} {w w' : World} {fr : List AV} {T : Tab}

theorem has_of_get {b : Nat} {x : Blk} (h : m.get b = some x) : m.has b = true := by simp [Mem.has, h]
theorem get_of_has {b : Nat} (h : m.has b = true) : ∃ x, m.get b = some x := Option.isSome_iff_exists.1 h

theorem Rel.drew (h : Rel ρ n0 w0 s m w) : Rel ρ n0 w0 s m w.drew :=
  ⟨h.cells, h.here, h.soft, h.inj, h.wf, h.below.drew, h.size⟩

/-- Behind a call that leaves what was as it was. -/
theorem Rel.call (h : Rel ρ n0 w0 s m w) (hb : Below w.heap.size w w') : Rel ρ n0 w0 s m w' where
  cells b x hx j c hc := (hb.cell (p := ⟨s b, j, none⟩) (h.here b x hx)).trans (h.cells b x hx j c hc)
  here b x hx := Nat.lt_of_lt_of_le (h.here b x hx) hb.size
  soft b x hx hw := ⟨(h.soft b x hx hw).1, fun j hj => (hb.frozen (p := ⟨s b, j, none⟩) (h.here b x hx)).trans ((h.soft b x hx hw).2 j hj)⟩
  inj := h.inj
  wf := h.wf
  below := h.below.trans (hb.mono h.size)
  size := Nat.le_trans h.size hb.size

/-- A new block under a new name. -/
theorem Rel.put {nm : Nat} {B : Nat} {wr : Bool} {cs : List CV} (h : Rel ρ n0 w0 s m w) (hb : Below w.heap.size w w') (hnm : m.has nm = false) (hB : w.heap.size ≤ B) (hB' : B < w'.heap.size)
    (hwf : cs.all (CV.wf m) = true) (hc : ∀ j c, cs[j]? = some c → w'.cell? ⟨B, j, none⟩ = some (γC ρ s c)) (hf : wr = true → ∀ j, j < cs.length → w'.frozen? ⟨B, j, none⟩ = false) :
    ∃ s', Ext m s s' ∧ s' nm = B ∧ Rel ρ n0 w0 s' (m.put ⟨nm, wr, cs⟩) w' := by
  have h' := h.call hb
  refine ⟨fun b => if b = nm then B else s b, ?_, by simp, ?_⟩
  · intro b hb
    have : b ≠ nm := fun e => by rw [e, hnm] at hb; cases hb
    simp [this]
  have ext : Ext m s (fun b => if b = nm then B else s b) := by
    intro b hb
    have : b ≠ nm := fun e => by rw [e, hnm] at hb; cases hb
    simp [this]
  have hg : Grows m (m.put ⟨nm, wr, cs⟩) := grows_put m _
  have get : ∀ b x, (m.put ⟨nm, wr, cs⟩).get b = some x → (b = nm ∧ x = ⟨nm, wr, cs⟩) ∨ (b ≠ nm ∧ m.get b = some x) := by
    intro b x hx
    rw [Mem.get_put] at hx
    by_cases e : nm = b
    · rw [if_pos e] at hx; cases hx; exact .inl ⟨e.symm, rfl⟩
    · rw [if_neg e] at hx; exact .inr ⟨fun k => e k.symm, hx⟩
  refine ⟨?_, ?_, ?_, ?_, ?_, h'.below, h'.size⟩
  · intro b x hx j c hj
    rcases get b x hx with ⟨rfl, rfl⟩ | ⟨hne, hx⟩
    · have hcw : c.wf m = true := List.all_eq_true.1 hwf c (List.mem_of_getElem? hj)
      simp only [if_true, hc j c hj, γC_ext ext hcw]
    · have hcw : c.wf m = true := List.all_eq_true.1 (h.wf b x hx) c (List.mem_of_getElem? hj)
      simp only [if_neg hne, h'.cells b x hx j c hj, γC_ext ext hcw]
  · intro b x hx
    rcases get b x hx with ⟨rfl, rfl⟩ | ⟨hne, hx⟩
    · simpa using hB'
    · simpa [hne] using h'.here b x hx
  · intro b x hx hw
    rcases get b x hx with ⟨rfl, rfl⟩ | ⟨hne, hx⟩
    · simp only [if_true]; exact ⟨Nat.le_trans h.size hB, hf hw⟩
    · simp only [if_neg hne]; exact h'.soft b x hx hw
  · intro b b' hb1 hb2 e
    have low : ∀ c, m.has c = true → s c < w.heap.size := fun c hc => by obtain ⟨x, hx⟩ := get_of_has hc; exact h.here c x hx
    have dec : ∀ c, (m.put ⟨nm, wr, cs⟩).has c = true → c = nm ∨ (c ≠ nm ∧ m.has c = true) := fun c hc => by
      obtain ⟨x, hx⟩ := get_of_has hc
      rcases get c x hx with ⟨h1, _⟩ | ⟨h1, h2⟩
      · exact .inl h1
      · exact .inr ⟨h1, has_of_get h2⟩
    rcases dec b hb1 with rfl | ⟨h1, h1'⟩ <;> rcases dec b' hb2 with rfl | ⟨h2, h2'⟩
    · rfl
    · simp [h2] at e; have := low b' h2'; omega
    · simp [h1] at e; have := low b h1'; omega
    · simp [h1, h2] at e; exact h.inj b b' h1' h2' e
  · intro b x hx
    rcases get b x hx with ⟨rfl, rfl⟩ | ⟨hne, hx⟩
    · exact CVs_wf_grows hg hwf
    · exact CVs_wf_grows hg (h.wf b x hx)

theorem below_alloc (w : World) (o : Obj) : Below w.heap.size w (w.alloc o) := (Below.refl _ _).alloc (Nat.le_refl _) _
theorem Rel.alloc {nm : Nat} {cs : List CV} {t : TypeId} (h : Rel ρ n0 w0 s m w) (hnm : m.has nm = false) (hwf : cs.all (CV.wf m) = true) :
    ∃ s', Ext m s s' ∧ s' nm = w.heap.size ∧ Rel ρ n0 w0 s' (m.put ⟨nm, true, cs⟩) (w.alloc (.cells (cs.map (γC ρ s)).toArray t)) := by
  refine h.put (below_alloc _ _) hnm (Nat.le_refl _) (by simp) hwf ?_ ?_
  · intro j c hj
    rw [World.cell?_alloc_at _ _ _ _ rfl]; simp [hj]
  · intro _ j _
    exact World.frozen?_alloc_at _ _ _ _ rfl

/-! ### Stores -/
theorem one_of_γC (c : CV) : (γC ρ s c).oneCell' = true := by cases c <;> rfl
/-- Cells stored one by one. -/
theorem run_storeFrom (B off : Nat) : ∀ (vs : List CV) (i : Nat) (w : World), (∀ j, j < vs.length → (∃ u, w.cell? ⟨B, off + i + j, none⟩ = some u) ∧ w.frozen? ⟨B, off + i + j, none⟩ = false) → n0 ≤ B →
    ∃ w', (storeCells ⟨B, off, none⟩ (vs.map (γC ρ s)) i).run P w = .ok () w' ∧ w'.heap.size = w.heap.size ∧ Below n0 w w' ∧
      (∀ a, (∀ j, j < vs.length → a ≠ ⟨B, off + i + j, none⟩) → w'.cell? a = w.cell? a) ∧ (∀ a, w'.frozen? a = w.frozen? a) ∧
      (∀ j c, vs[j]? = some c → w'.cell? ⟨B, off + i + j, none⟩ = some (γC ρ s c))
  | [], i, w, _, _ => ⟨w, by simp [storeCells], rfl, Below.refl _ _, fun _ _ => rfl, fun _ => rfl, fun j c h => by simp at h⟩
  | v :: vs, i, w, h, hB => by
    obtain ⟨⟨u, hu⟩, hf⟩ := h 0 (by simp)
    simp only [Nat.add_zero] at hu hf
    have hadd : (⟨B, off, none⟩ : Addr).add i = ⟨B, off + i, none⟩ := add_plain _ rfl i
    have hst : (store ⟨B, off + i, none⟩ (γC ρ s v)).run P w = .ok () (w.setCell ⟨B, off + i, none⟩ (γC ρ s v)) := by
      rw [run_store P w _ _ _ (one_of_γC v), hu]; simp [hf]
    have hfz : ∀ a, (w.setCell ⟨B, off + i, none⟩ (γC ρ s v)).frozen? a = w.frozen? a := fun a => by simp
    have hcell : ∀ a, a ≠ ⟨B, off + i, none⟩ → (w.setCell ⟨B, off + i, none⟩ (γC ρ s v)).cell? a = w.cell? a := fun a ha => World.cell?_setCell_other w _ _ _ (fun e => ha e.symm)
    obtain ⟨w', h1, h2, h3, h4, h5, h6⟩ := run_storeFrom B off vs (i + 1) (w.setCell ⟨B, off + i, none⟩ (γC ρ s v)) (fun j hj => by
      obtain ⟨⟨u', hu'⟩, hf'⟩ := h (j + 1) (by simp; omega)
      have e : off + (i + 1) + j = off + i + (j + 1) := by omega
      rw [e, hfz, hcell _ (by simp)]
      exact ⟨⟨u', hu'⟩, hf'⟩) hB
    refine ⟨w', ?_, ?_, ?_, ?_, ?_, ?_⟩
    · simp only [List.map_cons, storeCells, Sem.run_bind, hadd, hst, Result.andThen_ok, h1]
    · rw [h2]; simp
    · exact ((Below.refl _ _).setCell (p := ⟨B, off + i, none⟩) hB _).trans h3
    · intro a ha
      rw [h4 a (fun j hj => by have := ha (j + 1) (by simp; omega); rwa [show off + (i + 1) + j = off + i + (j + 1) from by omega])]
      exact hcell a (by have := ha 0 (by simp); simpa using this)
    · intro a; rw [h5, hfz]
    · intro j c hj
      cases j with
      | zero =>
        simp at hj; subst hj
        simp only [Nat.add_zero]
        rw [h4 _ (fun j hj => by simp)]
        exact World.cell?_setCell_same w _ _ hu
      | succ j =>
        have := h6 j c (by simpa using hj)
        rwa [show off + i + (j + 1) = off + (i + 1) + j from by omega]

theorem Rel.store {t : TypeId} {b off : Nat} {v : TV} (h : Rel ρ n0 w0 s m w) (hs : storeA P m t b off v = some m') (hv : v.cells.all (CV.wf m) = true) :
    Grows m m' ∧ ∃ w', (Instr.storeAt t (.pointer (some ⟨s b, off, none⟩)) (γT ρ s v)).run P w = .ok () w' ∧ Rel ρ n0 w0 s m' w' := by
  unfold storeA at hs
  cases hx : m.get b with
  | none => simp [hx] at hs
  | some x =>
    simp only [hx] at hs
    cases hn : sizeB P t with
    | none => simp [hn] at hs
    | some n =>
      simp only [hn] at hs
      split at hs
      · rename_i hc
        simp only [Bool.and_eq_true, Nat.ble_eq] at hc
        obtain ⟨⟨hwr, hl⟩, hle⟩ := hc
        replace hl : v.cells.length = n := Nat.eq_of_beq_eq_true hl
        cases hs
        refine ⟨grows_put m _, ?_⟩
        obtain ⟨hlow, hsoft⟩ := h.soft b x hx hwr
        obtain ⟨w', h1, h2, h3, h4, h5, h6⟩ := run_storeFrom (P := P) (ρ := ρ) (s := s) (n0 := n0) (s b) off v.cells 0 w (fun j hj => by
          have hlt : off + 0 + j < x.cs.length := by omega
          exact ⟨⟨_, h.cells b x hx _ _ (List.getElem?_eq_getElem hlt)⟩, hsoft _ hlt⟩) hlow
        refine ⟨w', ?_, ?_⟩
        · unfold Instr.storeAt Instr.sureAddr storeVar
          have hsz : (γT ρ s v).cells.size = n := by rw [γT_cells]; simp [hl]
          simp only [Sem.run_bind, Sem.run_pure, Result.andThen_ok, run_sizeOf' hn, hsz]
          simp only [ne_eq, not_true_eq_false, if_false, Sem.run_bind, Sem.run_pure, Result.andThen_ok, γT_cells, h1]
        · have hname := Mem.get_name hx
          have get : ∀ c y, (m.put ⟨b, true, splice x.cs off v.cells⟩).get c = some y → (c = b ∧ y = ⟨b, true, splice x.cs off v.cells⟩) ∨ (c ≠ b ∧ m.get c = some y) := by
            intro c y hy
            rw [Mem.get_put] at hy
            by_cases e : b = c
            · rw [if_pos e] at hy; cases hy; exact .inl ⟨e.symm, rfl⟩
            · rw [if_neg e] at hy; exact .inr ⟨fun k => e k.symm, hy⟩
          have hg : Grows m (m.put ⟨b, true, splice x.cs off v.cells⟩) := grows_put m _
          have hlen : (splice x.cs off v.cells).length = x.cs.length := splice_length (by omega)
          have back : ∀ c, (m.put ⟨b, true, splice x.cs off v.cells⟩).has c = true → m.has c = true := fun c hc => by
            obtain ⟨y, hy⟩ := get_of_has hc
            rcases get c y hy with ⟨rfl, _⟩ | ⟨_, hy⟩
            · exact has_of_get hx
            · exact has_of_get hy
          refine ⟨?_, ?_, ?_, ?_, ?_, h.below.trans h3, by rw [h2]; exact h.size⟩
          · intro c y hy j d hj
            rcases get c y hy with ⟨rfl, rfl⟩ | ⟨hne, hy⟩
            · simp only [splice] at hj
              by_cases hin : off ≤ j ∧ j < off + v.cells.length
              · have hj' : v.cells[j - off]? = some d := by
                  rw [List.append_assoc, List.getElem?_append_right (by simp; omega), List.getElem?_append_left (by simp; omega)] at hj
                  have : j - (x.cs.take off).length = j - off := by simp; omega
                  rwa [this] at hj
                have := h6 (j - off) d hj'
                rwa [show off + 0 + (j - off) = j from by omega] at this
              · have hj' : x.cs[j]? = some d := by
                  by_cases hlt : j < off
                  · rw [List.append_assoc, List.getElem?_append_left (by simp; omega), List.getElem?_take, if_pos hlt] at hj
                    exact hj
                  · rw [List.getElem?_append_right (by simp; omega), List.getElem?_drop] at hj
                    have : off + v.cells.length + (j - (List.take off x.cs ++ v.cells).length) = j := by simp; omega
                    rwa [this] at hj
                rw [h4 _ (fun k hk e => by have e := congrArg Addr.off e; simp only at e; omega)]
                exact h.cells c x hx j d hj'
            · rw [h4 _ (fun k hk => by
                simp
                intro e _
                exact hne (h.inj c b (has_of_get hy) (has_of_get hx) e))]
              exact h.cells c y hy j d hj
          · intro c y hy
            rw [h2]
            rcases get c y hy with ⟨rfl, rfl⟩ | ⟨hne, hy⟩
            · exact h.here _ x hx
            · exact h.here _ y hy
          · intro c y hy hw
            rcases get c y hy with ⟨rfl, rfl⟩ | ⟨hne, hy⟩
            · exact ⟨hlow, fun j hj => by rw [h5]; exact hsoft j (by simpa [hlen] using hj)⟩
            · exact ⟨(h.soft c y hy hw).1, fun j hj => by rw [h5]; exact (h.soft c y hy hw).2 j hj⟩
          · intro c d hc hd e
            exact h.inj c d (back c hc) (back d hd) e
          · intro c y hy
            rcases get c y hy with ⟨rfl, rfl⟩ | ⟨hne, hy⟩
            · refine CVs_wf_grows hg ?_
              have hxw := h.wf _ x hx
              rw [List.all_eq_true] at *
              intro d hd
              simp only [splice, List.mem_append] at hd
              rcases hd with (hd | hd) | hd
              · exact hxw d (List.mem_of_mem_take hd)
              · exact hv d hd
              · exact hxw d (List.mem_of_mem_drop hd)
            · exact CVs_wf_grows hg (h.wf c y hy)
      · cases hs

end
end Go.Proofs.Ytpdaigenffecmaa

namespace Go.Proofs.Ytpdaigenffecmaa
open Go Go.RowKit

section
variable {P : Program} {ρ : Nat → Int} {n0 : Nat} {w0 : World} {s s' : Nat → Nat} {m m' : Mem} {w w' : World} {fr : List AV} {T : Tab}

theorem γ_ptr (b o : Nat) : γ ρ s (.v (.one (.ptr b o))) = .pointer (some ⟨s b, o, none⟩) := rfl
theorem γ_slice (b o l c : Nat) : γ ρ s (.v (.one (.slice b o l c))) = .slice (some ⟨s b, o, none⟩) l c := rfl
theorem mem_ok (h : Rel ρ n0 w0 s m w) (o : Oper) {nm : Nat} {v : AV} (hm : memA P m fr nm o.op = some (v, m')) :
    Grows m m' ∧ ∃ s' w', Ext m s s' ∧ Rel ρ n0 w0 s' m' w' ∧
      ((execOp (act ρ s fr).eval o).run P w = .ok (.value (γ ρ s' v)) w' ∨ (v = nilA ∧ (execOp (act ρ s fr).eval o).run P w = .ok .skip w')) := by
  obtain ⟨dst, op, ty, pos, aft, gd⟩ := o
  unfold memA at hm
  split at hm
  · cases hm
  rename_i hnm
  have hnm : m.has nm = false := by simpa using hnm
  cases op with
  | alloc t =>
    simp only at hm
    cases hz : zeroA P t with
    | none => simp [hz] at hm
    | some z =>
      simp only [hz] at hm
      split at hm
      · rename_i hwf
        cases hm
        refine ⟨grows_put m _, ?_⟩
        obtain ⟨s', h1, h2, h3⟩ := h.alloc (nm := nm) (t := t) hnm hwf
        refine ⟨s', _, h1, h3, .inl ?_⟩
        simp [execOp, Instr.alloc, zero_ok (ρ := ρ) (s := s) hz, newVar, newRow, γT_cells, γ_ptr, h2]
      · cases hm
  | box t x =>
    simp only at hm
    cases hz : evalT fr x with
    | none => simp [hz] at hm
    | some z =>
      simp only [hz] at hm
      split at hm
      · rename_i hwf
        cases hm
        refine ⟨grows_put m _, ?_⟩
        obtain ⟨s', h1, h2, h3⟩ := h.alloc (nm := nm) (t := t) hnm hwf
        refine ⟨s', _, h1, h3, .inl ?_⟩
        simp [execOp, Instr.box, evalT_ok (ρ := ρ) (s := s) hz, newVar, newRow, γT_cells, γ_ptr, h2]
      · cases hm
  | buildSlice t len parts =>
    simp only at hm
    split at hm
    · rename_i e ps hu hp
      split at hm
      · rename_i n z hn hz
        split at hm
        · rename_i hc
          simp only [Bool.and_eq_true, Nat.ble_eq, Nat.blt_eq] at hc
          obtain ⟨⟨h1, h2⟩, h3⟩ := hc
          replace h3 : z.cells.length = n := Nat.eq_of_beq_eq_true h3
          split at hm
          · rename_i cs hf
            split at hm
            · rename_i hwf
              cases hm
              refine ⟨grows_put m _, ?_⟩
              obtain ⟨s', k1, k2, k3⟩ := h.alloc (nm := nm) (t := e) hnm hwf
              refine ⟨s', _, k1, k3, .inl ?_⟩
              have hfo := fill_ok (ρ := ρ) (s := s) hf
              have hps := evalParts_ok (ρ := ρ) (s := s) hp
              have hz' : (Array.range (len * n)).map (fun i => (z.cells.map (γC ρ s)).toArray[i % (z.cells.map (γC ρ s)).toArray.size]!) =
                  (((List.range (len * n)).map fun i => z.cells.getD (i % n) .niliface).map (γC ρ s)).toArray := by
                apply Array.ext'
                simp only [Array.toList_map, Array.toList_range, List.map_map, List.size_toArray, List.length_map, h3]
                apply List.map_congr_left
                intro i hi
                have hn0 : 0 < n := Nat.pos_of_ne_zero fun e0 => by simp [e0] at h1
                have hlt : i % n < z.cells.length := by rw [h3]; exact Nat.mod_lt _ hn0
                simp [hlt]
              simp only [execOp, Instr.buildSlice, Sem.run_bind, run_und hu, Result.andThen_ok, run_sizeOf' hn]
              rw [if_neg (by omega)]
              simp only [Sem.run_bind, Result.andThen_ok, Sem.run_pure]
              rw [if_neg (by omega)]
              simp only [Sem.run_bind, zero_ok (ρ := ρ) (s := s) hz, Result.andThen_ok, Sem.run_pure, γT_cells, hz']
              have hpl : (parts.map fun (i, x) => (i, (act ρ s fr).eval x)).toList = ps.map (fun p => (p.1, γT ρ s p.2)) := by rw [← hps]; simp
              simp only [hpl, hfo]
              simp [newRow, γ_slice, k2]
            · cases hm
          · cases hm
        · cases hm
      · cases hm
    · cases hm
  | store t a x =>
    simp only at hm
    split at hm
    · rename_i b off u ha hx
      split at hm
      · rename_i hwf
        cases hs : storeA P m t b off u with
        | none => simp [hs] at hm
        | some m1 =>
          simp [hs] at hm
          obtain ⟨rfl, rfl⟩ := hm
          obtain ⟨hg, w', h1, h2⟩ := h.store hs hwf
          refine ⟨hg, s, w', Ext.refl, h2, .inr ⟨rfl, ?_⟩⟩
          simp only [execOp, Sem.run_bind, evalC_ok (ρ := ρ) (s := s) ha, evalT_ok (ρ := ρ) (s := s) hx, γC, h1, Result.andThen_ok, Sem.run_pure]
      · cases hm
    · cases hm
  | _ => cases hm

/-! ### Steps -/
def FrWf (m : Mem) (fr : List AV) : Prop := ∀ v ∈ fr, v.wf m = true
theorem FrWf.grows (h : FrWf m fr) (g : Grows m m') : FrWf m' fr := fun v hv => AV.wf_grows g (h v hv)
theorem act_ext (h : Ext m s s') (hf : FrWf m fr) : act ρ s' fr = act ρ s fr := by
  simp only [act, γs_ext h hf]
theorem put_ok {st st' : St} {dst : Option Tmp} {v : AV} (h : putA st dst v = some st') (hf : FrWf st.m st.fr) :
    FrWf st'.m st'.fr ∧ st'.m = st.m ∧ ∀ s, (act ρ s st.fr).put dst (γ ρ s v) = act ρ s st'.fr := by
  unfold putA at h
  split at h
  · rename_i hv
    cases dst with
    | none => cases h; exact ⟨hf, rfl, fun s => rfl⟩
    | some d =>
      simp only [force_eq] at h
      cases h
      refine ⟨fun u hu => ?_, rfl, fun s => act_put d v⟩
      rcases mem_setAt hu with rfl | hu
      · exact hv
      · exact hf u hu
  · cases h

def CallOk (P : Program) (ρ : Nat → Int) (n0 : Nat) (w0 : World) (call : CallFn) : Prop :=
  ∀ f args m n v m' n', call f args m n = some (v, m', n') → (∀ u ∈ args, u.wf m = true) → Grows m m' ∧
    ∀ s w, Rel ρ n0 w0 s m w → Calls P f (args.map (γ ρ s)).toArray w fun e w' => ∃ s', Ext m s s' ∧ e = .returned (γ ρ s' v) ∧ Rel ρ n0 w0 s' m' w'

theorem evalA_wf (hf : FrWf m fr) {x : Operand} {v : AV} (h : evalA fr x = some v) : v.wf m = true := by
  cases x with
  | tmp t => exact hf v (List.mem_of_getElem? h)
  | const u =>
    simp only [evalA] at h
    have one : ∀ {u : Value} {c : CV}, reifyC u = some c → c.wf m = true := by
      intro u c h
      unfold reifyC at h
      split at h <;> first | (cases h; rfl) | cases h
    have many : ∀ {l : List Value} {cs : List CV}, reifyL l = some cs → cs.all (CV.wf m) = true := by
      intro l
      induction l with
      | nil => intro cs h; simp [reifyL] at h; subst h; rfl
      | cons a l ih =>
        intro cs h
        simp only [reifyL] at h
        split at h
        · rename_i c r h1 h2; cases h; simp [one h1, ih h2]
        · cases h
    cases hr : reifyT u with
    | none => simp [hr] at h
    | some t =>
      simp [hr] at h; subst h
      unfold reifyT at hr
      split at hr
      · rename_i cs
        cases hl : reifyL cs.toList with
        | none => simp [hl] at hr
        | some l => simp [hl] at hr; subst hr; exact many hl
      · cases hl : reifyC u with
        | none => simp [hl] at hr
        | some l => simp [hl] at hr; subst hr; exact one hl
  | global g => cases h
  | func f => cases h; rfl
theorem evalC_wf (hf : FrWf m fr) {x : Operand} {c : CV} (h : evalC fr x = some c) : c.wf m = true := by
  unfold evalC at h
  split at h
  · rename_i e; cases h; exact evalA_wf hf e
  · cases h
theorem evalL_wf (hf : FrWf m fr) : ∀ {l : List Operand} {vs : List AV}, evalL fr l = some vs → ∀ u ∈ vs, u.wf m = true
  | [], vs, h => by simp [evalL] at h; subst h; simp
  | x :: l, vs, h => by
    simp only [evalL] at h
    split at h
    · rename_i v r h1 h2
      cases h
      intro u hu
      rcases List.mem_cons.1 hu with rfl | hu
      · exact evalA_wf hf h1
      · exact evalL_wf hf h2 u hu
    · cases h
theorem ptrsA_ok (l : List (Nat × Nat)) : (ptrsA l).map (γ ρ s) = l.map (γP s) := by simp [ptrsA, γ, γT, γC, γP, Function.comp_def]
theorem target_ok {c : Call} {f : FuncId} {args : List AV} (h : targetA fr c = some (f, args)) (he : enterable P f = true) (dst : Option Tmp) (ty : TypeId) (pos : String) (aft : Array Edge) (gd : Option (Nat × Bool)) :
    (execOp (act ρ s fr).eval ⟨dst, .call c, ty, pos, aft, gd⟩).run P w = .ok (.enter f (args.map (γ ρ s)).toArray) w := by
  obtain ⟨callee, cargs, ctys⟩ := c
  unfold targetA at h
  simp only at h
  split at h
  · rename_i x
    split at h
    · rename_i g a cs vs hx hv
      cases h
      have hx' := evalC_ok (ρ := ρ) (s := s) hx
      have hv' := evalL_ok (ρ := ρ) (s := s) hv
      unfold enterable at he
      cases hfn : P.funcs[f]? with
      | none => simp [hfn] at he
      | some fn =>
        simp only [hfn, Bool.and_eq_true] at he
        obtain ⟨hb, hname⟩ := he
        have hname' : (fn.name == "runtime.NumGoroutine") = false := by simpa using hname
        have hb' : fn.body.isNone = false := by cases h : fn.body <;> simp_all
        have hargs : (a.map (γP s)).toArray ++ cargs.map (act ρ s fr).eval ++ (cs.map (γP s)).toArray = ((ptrsA a ++ vs ++ ptrsA cs).map (γ ρ s)).toArray := by
          apply Array.ext'
          simp [ptrsA_ok, ← hv']
        simp only [execOp, resolve, hx', γC, Deferred.ofValue, Sem.run_bind, Sem.run_pure, Result.andThen_ok, invoke, callFunc, run_program, hfn, hname', hb', Bool.false_eq_true, if_false, hargs]
    · cases h
  · cases h
theorem target_wf (hf : FrWf m fr) {c : Call} {f : FuncId} {args : List AV} (h : targetA fr c = some (f, args)) : ∀ u ∈ args, u.wf m = true := by
  unfold targetA at h
  split at h
  · split at h
    · rename_i g a cs vs hx hv
      cases h
      have h1 := evalC_wf hf hx
      simp only [CV.wf, Bool.and_eq_true, List.all_eq_true] at h1
      intro u hu
      simp only [List.mem_append, ptrsA, List.mem_map] at hu
      rcases hu with (⟨p, hp, rfl⟩ | hu) | ⟨p, hp, rfl⟩
      · exact h1.1 p hp
      · exact evalL_wf hf hv u hu
      · exact h1.2 p hp
    · cases h
  · cases h

theorem step_ok {call : CallFn} {nm : Nat} {st st' : St} {o : Oper} (hT : TabOp P ρ T) (hcall : CallOk P ρ n0 w0 call) (hf : FrWf st.m st.fr)
    (h : stepA P T call nm st o = some st') : Grows st.m st'.m ∧ FrWf st'.m st'.fr ∧
      ∀ s w (K : Act → World → Prop) (Q : Exit → Act → World → Prop), Rel ρ n0 w0 s st.m w →
        (∀ s' w', Ext st.m s s' → Rel ρ n0 w0 s' st'.m w' → K (act ρ s' st'.fr) w') → o.wp P (act ρ s st.fr) w K Q := by
  unfold stepA at h
  cases hp : pureA P T st.m st.fr o.op with
  | some v =>
    simp only [hp] at h
    obtain ⟨h1, h2, h3⟩ := put_ok (ρ := ρ) h hf
    refine ⟨h2 ▸ Grows.refl, h1, fun s w K Q hr hK => ?_⟩
    unfold Oper.wp
    rw [pure_ok hT hr.cells o hp]
    simp only [Oper.upon, h3]
    exact hK s w Ext.refl (h2 ▸ hr)
  | none =>
    simp only [hp] at h
    split at h
    · rename_i c hop
      cases ht : targetA st.fr c with
      | none => simp [ht] at h
      | some q =>
        obtain ⟨f, args⟩ := q
        simp only [ht] at h
        split at h
        · rename_i he
          cases hc : call f args st.m st.n with
          | none => simp [hc] at h
          | some r =>
            obtain ⟨v, m1, n1⟩ := r
            simp only [hc] at h
            obtain ⟨hg, hcalls⟩ := hcall _ _ _ _ _ _ _ hc (target_wf hf ht)
            obtain ⟨h1, h2, h3⟩ := put_ok (ρ := ρ) h (hf.grows hg)
            simp only at h1 h2 h3
            refine ⟨h2 ▸ hg, h1, fun s w K Q hr hK => ?_⟩
            unfold Oper.wp
            obtain ⟨dst, op, ty, pos, aft, gd⟩ := o
            simp only at hop
            subst hop
            rw [target_ok ht he]
            simp only [Oper.upon]
            refine (hcalls s w hr).mono fun e w' ⟨s', he', hv, hr'⟩ => ?_
            subst hv
            simp only
            have := hK s' w' he' (h2 ▸ hr')
            rwa [← h3, act_ext he' hf] at this
        · cases h
    · rename_i op hop
      cases hm : memA P st.m st.fr nm o.op with
      | none => simp [hm] at h
      | some r =>
        obtain ⟨v, m1⟩ := r
        simp only [hm] at h
        have hg : Grows st.m m1 := by
          unfold memA at hm
          split at hm
          · cases hm
          · split at hm
            · split at hm
              · split at hm
                · cases hm; exact grows_put _ _
                · cases hm
              · cases hm
            · split at hm
              · split at hm
                · cases hm; exact grows_put _ _
                · cases hm
              · cases hm
            · split at hm
              · split at hm
                · split at hm
                  · split at hm
                    · split at hm
                      · cases hm; exact grows_put _ _
                      · cases hm
                    · cases hm
                  · cases hm
                · cases hm
              · cases hm
            · split at hm
              · split at hm
                · simp only [Option.map_eq_some_iff] at hm
                  obtain ⟨m2, hs, he⟩ := hm
                  cases he
                  unfold storeA at hs
                  split at hs
                  · cases hs
                  · split at hs
                    · split at hs
                      · cases hs; exact grows_put _ _
                      · cases hs
                    · cases hs
                · cases hm
              · cases hm
            · cases hm
        obtain ⟨h1, h2, h3⟩ := put_ok (ρ := ρ) h (hf.grows hg)
        simp only at h1 h2 h3
        refine ⟨h2 ▸ hg, h1, fun s w K Q hr hK => ?_⟩
        obtain ⟨_, s', w', he, hr', hrun⟩ := mem_ok (fr := st.fr) hr o hm
        have hk := hK s' w' he (h2 ▸ hr')
        rw [← h3, act_ext he hf] at hk
        unfold Oper.wp
        rcases hrun with hrun | ⟨rfl, hrun⟩
        · rw [hrun]; exact hk
        · rw [hrun]; exact hk

/-! ### Regions -/
theorem yielded_ok (ops : Array Oper) (j : Nat) : yielded ops (act ρ s fr).tmps j = yieldedA ops fr j := by
  unfold yielded yieldedA
  cases h : (ops[j]?).bind (·.dst) with
  | none => rfl
  | some d =>
    simp only [Option.bind_some, act, List.getElem?_toArray, List.getElem?_map]
    cases hd : fr[d]? with
    | none => rfl
    | some v =>
      simp only [Option.map_some]
      cases v with
      | tup l => rfl
      | v t =>
        cases t with
        | agg l => rfl
        | one c => cases c <;> rfl
theorem wanted_ok (ops : Array Oper) (o : Oper) : Region.wanted o (yielded ops (act ρ s fr).tmps) = wantedA ops fr o := by
  unfold wantedA Region.wanted
  cases o.guard with
  | none => rfl
  | some p => simp only [yielded_ok]
theorem nil_γ : γ ρ s nilA = undef := rfl

theorem list_ok {call : CallFn} {ops : Array Oper} (hT : TabOp P ρ T) (hcall : CallOk P ρ n0 w0 call) : ∀ {l : List Oper} {st st' : St}, FrWf st.m st.fr →
    listA P T call ops l st = some st' → Grows st.m st'.m ∧ FrWf st'.m st'.fr ∧
      ∀ s w (Q : Exit → Act → World → Prop), Rel ρ n0 w0 s st.m w →
        (∀ s' w', Ext st.m s s' → Rel ρ n0 w0 s' st'.m w' → Q .normal (act ρ s' st'.fr) w') → wpList P ops Q l (act ρ s st.fr) w
  | [], st, st', hf, h => by
    simp [listA] at h; subst h
    exact ⟨Grows.refl, hf, fun s w Q hr hQ => hQ s w Ext.refl hr⟩
  | o :: l, st, st', hf, h => by
    simp only [listA] at h
    split at h
    · rename_i hw
      cases hs : stepA P T call st.n { st with n := st.n + 1 } o with
      | none => simp [hs] at h
      | some st1 =>
        simp only [hs] at h
        obtain ⟨g1, f1, k1⟩ := step_ok (st := { st with n := st.n + 1 }) hT hcall hf hs
        simp only at g1 f1 k1
        obtain ⟨g2, f2, k2⟩ := list_ok hT hcall f1 h
        refine ⟨g1.trans g2, f2, fun s w Q hr hQ => ?_⟩
        simp only [wpList, wanted_ok, hw, if_true]
        exact .inl (k1 s w _ Q hr fun s1 w1 e1 r1 => k2 s1 w1 Q r1 fun s2 w2 e2 r2 => hQ s2 w2 (e1.trans g1 e2) r2)
    · rename_i hw
      cases hs : putA st o.dst nilA with
      | none => simp [hs] at h
      | some st1 =>
        simp only [hs] at h
        obtain ⟨f1, m1, p1⟩ := put_ok (ρ := ρ) hs hf
        obtain ⟨g2, f2, k2⟩ := list_ok hT hcall f1 h
        rw [m1] at g2 k2
        refine ⟨g2, f2, fun s w Q hr hQ => ?_⟩
        have hw' : wantedA ops st.fr o = false := by simpa using hw
        simp only [wpList, wanted_ok, hw', Bool.false_eq_true, if_false]
        rw [← nil_γ (ρ := ρ) (s := s), p1]
        exact k2 s w Q hr hQ

end
end Go.Proofs.Ytpdaigenffecmaa

namespace Go.Proofs.Ytpdaigenffecmaa
open Go Go.RowKit

section
variable {P : Program} {ρ : Nat → Int} {n0 : Nat} {w0 : World} {s s' : Nat → Nat} {m m' : Mem} {w w' : World} {fr : List AV} {T : Tab}

theorem sub_ok : ∀ {a : Mem}, subM a m = true → ∀ b x, a.get b = some x → m.get b = some x
  | [], _, b, x, h => by simp [Mem.get] at h
  | y :: a, hs, b, x, h => by
    simp only [subM, List.all_cons, Bool.and_eq_true] at hs
    simp only [Mem.get] at h
    split at h
    · rename_i e
      cases h
      have e' := Nat.eq_of_beq_eq_true e
      have h1 := hs.1
      rw [e'] at h1
      cases hm : Mem.get m b with
      | none => simp [hm] at h1
      | some z => simp [hm] at h1; rw [h1]
    · exact sub_ok (a := a) hs.2 b x h

theorem take_ok {ops : Array Oper} {mS : Mem} {listed : Array Bool} : ∀ {rs : List Nat} {i : Nat} {o : Oper} {v : AV}, takeA P T ops mS listed fr rs = some (i, o, v) →
    i ∈ rs ∧ ops[i]? = some o ∧ Region.free .any ops listed i = true ∧ ((wantedA ops fr o = true ∧ pureA P T mS fr o.op = some v) ∨ (wantedA ops fr o = false ∧ v = nilA))
  | [], i, o, v, h => by simp [takeA] at h
  | j :: rs, i, o, v, h => by
    have rest : takeA P T ops mS listed fr rs = some (i, o, v) → i ∈ j :: rs ∧ ops[i]? = some o ∧ Region.free .any ops listed i = true ∧ ((wantedA ops fr o = true ∧ pureA P T mS fr o.op = some v) ∨ (wantedA ops fr o = false ∧ v = nilA)) := fun h =>
      let ⟨h1, h2⟩ := take_ok h
      ⟨List.mem_cons_of_mem _ h1, h2⟩
    simp only [takeA] at h
    split at h
    · exact rest h
    · rename_i o' ho
      split at h
      · rename_i hw
        split at h
        · rename_i v' hv
          split at h
          · rename_i hfree; cases h; exact ⟨List.mem_cons_self, ho, hfree, .inl ⟨hw, hv⟩⟩
          · exact rest h
        · exact rest h
      · rename_i hw
        split at h
        · rename_i hfree; cases h; exact ⟨List.mem_cons_self, ho, hfree, .inr ⟨by simpa using hw, rfl⟩⟩
        · exact rest h
theorem same_ok {f : Nat → Option St} : ∀ {l : List Nat} {r : St}, allSame f l = some r → ∀ i ∈ l, f i = some r
  | [], r, h, i, hi => by simp at hi
  | [j], r, h, i, hi => by simp at hi; subst hi; simpa [allSame] using h
  | j :: k :: l, r, h, i, hi => by
    simp only [allSame] at h
    split at h
    · rename_i a b ha hb
      split at h
      · rename_i e
        cases h
        subst e
        rcases List.mem_cons.1 hi with rfl | hi
        · exact ha
        · exact same_ok (l := k :: l) (by simpa only [allSame] using hb) i hi
      · cases h
    · cases h

/-- A panic's post that does not look at the frame. -/
def QOk (Q : Exit → Act → World → Prop) : Prop := ∀ c a d v w, Q (.panic c) (Act.put a d v) w → Q (.panic c) a w

theorem any_ok {call : CallFn} {ops : Array Oper} {mS m0 : Mem} {sS : Nat → Nat} {b0 : Nat} (hT : TabOp P ρ T) (hcall : CallOk P ρ n0 w0 call) (hsel : Region.noSelect ops = true)
    (hS0 : ∀ b x, mS.get b = some x → m0.get b = some x) :
    ∀ (k : Nat) {listed : Array Bool} {st st' : St}, FrWf st.m st.fr → Grows m0 st.m → (∀ b x, mS.get b = some x → st.m.get b = some x) →
      anyA P T call ops mS b0 (k + 1) listed st = some st' → Grows st.m st'.m ∧ FrWf st'.m st'.fr ∧
      ∀ s w (Q : Exit → Act → World → Prop), QOk Q → Rel ρ n0 w0 s st.m w → Ext m0 sS s → (∀ b x, m0.get b = some x → x.cs.all (CV.wf m0) = true) →
        (∀ s' w', Ext st.m s s' → Rel ρ n0 w0 s' st'.m w' → Q .normal (act ρ s' st'.fr) w') →
        wpAnyH P .any ops Q (Cells ρ sS mS) k listed (act ρ s st.fr) w := by
  -- S of a world whose memory holds what mS holds
  have cells : ∀ {s : Nat → Nat} {m : Mem} {w : World}, (∀ b x, m0.get b = some x → x.cs.all (CV.wf m0) = true) → (∀ b x, mS.get b = some x → m.get b = some x) → Rel ρ n0 w0 s m w → Ext m0 sS s → Cells ρ sS mS w := by
    intro s m w hwf0 hsub hr he b x hx j c hc
    have h0 := hS0 b x hx
    have hcw : c.wf m0 = true := List.all_eq_true.1 (hwf0 b x h0) c (List.mem_of_getElem? hc)
    have := hr.cells b x (hsub b x hx) j c hc
    rwa [he b (has_of_get h0), γC_ext he hcw] at this
  have back : ∀ {s : Nat → Nat} {w : World}, (∀ b x, m0.get b = some x → x.cs.all (CV.wf m0) = true) → Ext m0 sS s → Cells ρ sS mS w → Cells ρ s mS w := by
    intro s w hwf0 he hc b x hx j c hj
    have h0 := hS0 b x hx
    have hcw : c.wf m0 = true := List.all_eq_true.1 (hwf0 b x h0) c (List.mem_of_getElem? hj)
    have := hc b x hx j c hj
    rwa [← he b (has_of_get h0), ← γC_ext he hcw] at this
  intro k
  induction k with
  | zero =>
    intro listed st st' hf hg hsub h
    simp only [anyA] at h
    split at h
    · rename_i hr
      cases h
      exact ⟨Grows.refl, hf, fun s w Q hq hrel he hwf0 hQ => wpAnyH_done hr (hQ s w Ext.refl hrel) _⟩
    · split at h
      · split at h <;> cases h
      · rename_i r rs hr _
        have := same_ok h _ (by rw [‹Region.ready _ _ _ = _›]; exact List.mem_cons_self)
        split at this
        · cases this
        · split at this
          · split at this
            · split at this <;> cases this
            · cases this
          · split at this <;> cases this
  | succ k ih =>
    intro listed st st' hf hg hsub h
    rw [anyA] at h
    split at h
    · rename_i hr
      cases h
      exact ⟨Grows.refl, hf, fun s w Q hq hrel he hwf0 hQ => wpAnyH_done hr (hQ s w Ext.refl hrel) _⟩
    · rename_i r rs hr
      split at h
      · rename_i i o v ht
        obtain ⟨h1, h2, h3, h4⟩ := take_ok ht
        cases hp : putA st o.dst v with
        | none => simp [hp] at h
        | some st1 =>
          simp only [hp] at h
          obtain ⟨f1, m1, p1⟩ := put_ok (ρ := ρ) hp hf
          obtain ⟨g2, f2, k2⟩ := ih f1 (m1 ▸ hg) (m1 ▸ hsub) h
          rw [m1] at g2 k2
          refine ⟨g2, f2, fun s w Q hq hrel he hwf0 hQ => ?_⟩
          refine wpAnyH_take (v := γ ρ s v) h2 hsel h3 (by simpa using h1) (fun c a w hp => hq c _ _ _ w hp) ?_ (cells hwf0 hsub hrel he) ?_
          · rcases h4 with ⟨hw, hv⟩ | ⟨hw, rfl⟩
            · exact .inl ⟨by rw [wanted_ok]; exact hw, fun w hS => pure_ok hT (back hwf0 he hS) o hv⟩
            · exact .inr ⟨by rw [wanted_ok]; exact hw, rfl⟩
          · rw [p1]
            exact k2 s w Q hq hrel he hwf0 hQ
      · rename_i ht
        have hall := same_ok h
        have good : ∀ i ∈ Region.ready .any ops listed, Grows st.m st'.m ∧ FrWf st'.m st'.fr ∧ ∀ s w (Q : Exit → Act → World → Prop), QOk Q → Rel ρ n0 w0 s st.m w → Ext m0 sS s → (∀ b x, m0.get b = some x → x.cs.all (CV.wf m0) = true) →
            (∀ s' w', Ext st.m s s' → Rel ρ n0 w0 s' st'.m w' → Q .normal (act ρ s' st'.fr) w') →
            wpOp P ops Q i (fun a' w' => Cells ρ sS mS w' ∧ wpAnyH P .any ops Q (Cells ρ sS mS) k (listed.setIfInBounds i true) a' w') (act ρ s st.fr) w := by
          intro i hi
          have h := hall i hi
          split at h
          · cases h
          · rename_i o ho
            split at h
            · rename_i hw
              cases hs : stepA P T call (b0 + i) st o with
              | none => simp [hs] at h
              | some st1 =>
                simp only [hs] at h
                split at h
                · rename_i hsub1
                  obtain ⟨g1, f1, k1⟩ := step_ok hT hcall hf hs
                  have hsub1' := sub_ok hsub1
                  obtain ⟨g2, f2, k2⟩ := ih f1 (hg.trans g1) hsub1' h
                  refine ⟨g1.trans g2, f2, fun s w Q hq hrel he hwf0 hQ => ?_⟩
                  unfold wpOp
                  simp only [ho, wanted_ok, hw, if_true]
                  refine .inl (k1 s w _ Q hrel fun s1 w1 e1 r1 => ?_)
                  have he1 : Ext m0 sS s1 := he.trans hg e1
                  exact ⟨cells hwf0 hsub1' r1 he1, k2 s1 w1 Q hq r1 he1 hwf0 fun s2 w2 e2 r2 => hQ s2 w2 (e1.trans g1 e2) r2⟩
                · cases h
            · rename_i hw
              cases hp : putA st o.dst nilA with
              | none => simp [hp] at h
              | some st1 =>
                simp only [hp] at h
                obtain ⟨f1, m1, p1⟩ := put_ok (ρ := ρ) hp hf
                obtain ⟨g2, f2, k2⟩ := ih f1 (m1 ▸ hg) (m1 ▸ hsub) h
                rw [m1] at g2 k2
                refine ⟨g2, f2, fun s w Q hq hrel he hwf0 hQ => ?_⟩
                have hw' : wantedA ops st.fr o = false := by simpa using hw
                unfold wpOp
                simp only [ho, wanted_ok, hw', Bool.false_eq_true, if_false]
                rw [← nil_γ (ρ := ρ) (s := s), p1]
                exact ⟨cells hwf0 hsub hrel he, k2 s w Q hq hrel he hwf0 hQ⟩
        obtain ⟨g, f, _⟩ := good r (by rw [hr]; simp)
        exact ⟨g, f, fun s w Q hq hrel he hwf0 hQ => wpAnyH_all rfl (by rw [hr]; simp) fun i hi => (good i hi).2.2 s w Q hq hrel he hwf0 hQ⟩

/-! ### Code -/
/-- What it is for a piece of code to be run rightly. -/
def Runs (P : Program) (ρ : Nat → Int) (n0 : Nat) (w0 : World) (c : Code) (st : St) (x : XX) (st' : St) : Prop :=
  Grows st.m st'.m ∧ FrWf st'.m st'.fr ∧ ∀ s w (Q : Exit → Act → World → Prop), QOk Q → Rel ρ n0 w0 s st.m w →
    (∀ s' w', Ext st.m s s' → Rel ρ n0 w0 s' st'.m w' → Q x.toExit (act ρ s' st'.fr) w') → c.wp P Q (act ρ s st.fr) w
theorem QOk.then {Q : Exit → Act → World → Prop} (h : QOk Q) (K : Act → World → Prop) : QOk (Exit.then K Q) := fun c a d v w hp => h c a d v w hp
theorem QOk.inBlock {Q : Exit → Act → World → Prop} (h : QOk Q) (id : Nat) : QOk (Exit.inBlock id Q) := fun c a d v w hp => h c a d v w hp
theorem QOk.noGoto {Q : Exit → Act → World → Prop} (h : QOk Q) : QOk (Exit.noGoto Q) := fun c a d v w hp => h c a d v w hp

theorem loop_ok {c : Code} {f : St → Option (XX × St)} (hf : ∀ st x st', FrWf st.m st.fr → f st = some (x, st') → Runs P ρ n0 w0 c st x st') :
    ∀ (n : Nat) {st : St} {x : XX} {st' : St}, FrWf st.m st.fr → loopA f n st = some (x, st') → Grows st.m st'.m ∧ FrWf st'.m st'.fr ∧
      ∀ s w (Q : Exit → Act → World → Prop), QOk Q → Rel ρ n0 w0 s st.m w →
        (∀ s' w', Ext st.m s s' → Rel ρ n0 w0 s' st'.m w' → Q x.toExit (act ρ s' st'.fr) w') → Rounds P c Q n (act ρ s st.fr) w := by
  intro n
  induction n with
  | zero => intro st x st' _ h; simp [loopA] at h
  | succ n ih =>
    intro st x st' hw h
    simp only [loopA] at h
    split at h
    · rename_i st1 h1
      obtain ⟨g1, f1, k1⟩ := hf _ _ _ hw h1
      obtain ⟨g2, f2, k2⟩ := ih f1 h
      refine ⟨g1.trans g2, f2, fun s w Q hq hr hQ => ?_⟩
      exact k1 s w _ (hq.then _) hr fun s1 w1 e1 r1 => k2 s1 w1 Q hq r1 fun s2 w2 e2 r2 => hQ s2 w2 (e1.trans g1 e2) r2
    · rename_i hne
      obtain ⟨g1, f1, k1⟩ := hf _ _ _ hw h
      refine ⟨g1, f1, fun s w Q hq hr hQ => ?_⟩
      refine k1 s w _ (hq.then _) hr fun s1 w1 e1 r1 => ?_
      have := hQ s1 w1 e1 r1
      cases x with
      | nor => exact (hne _ h).elim
      | exit i => exact this
      | ret => exact this

theorem exec_ok {call : CallFn} (hT : TabOp P ρ T) (hcall : CallOk P ρ n0 w0 call) : ∀ (c : Code) {st : St} {x : XX} {st' : St}, FrWf st.m st.fr →
    execA P T call c st = some (x, st') → Runs P ρ n0 w0 c st x st' := by
  intro c
  induction c with
  | skip => intro st x st' hf h; simp only [execA] at h; cases h; exact ⟨Grows.refl, hf, fun s w Q _ hr hQ => wp_skip (hQ s w Ext.refl hr)⟩
  | label l => intro st x st' hf h; simp only [execA] at h; cases h; exact ⟨Grows.refl, hf, fun s w Q _ hr hQ => wp_label (hQ s w Ext.refl hr)⟩
  | exit id => intro st x st' hf h; simp only [execA] at h; cases h; exact ⟨Grows.refl, hf, fun s w Q _ hr hQ => wp_exit (hQ s w Ext.refl hr)⟩
  | ret => intro st x st' hf h; simp only [execA] at h; cases h; exact ⟨Grows.refl, hf, fun s w Q _ hr hQ => wp_ret (hQ s w Ext.refl hr)⟩
  | goto l => intro st x st' hf h; simp [execA] at h
  | refuse l => intro st x st' hf h; simp [execA] at h
  | rangeFunc f ps a b _ _ => intro st x st' hf h; simp [execA] at h
  | region id ops draw =>
    intro st x st' hf h
    cases draw with
    | false =>
      simp only [execA] at h
      cases hl : listA P T call ops ops.toList st with
      | none => simp [hl] at h
      | some st1 =>
        simp [hl] at h
        obtain ⟨rfl, rfl⟩ := h
        obtain ⟨g1, f1, k1⟩ := list_ok hT hcall hf hl
        exact ⟨g1, f1, fun s w Q _ hr hQ => wp_region_list (k1 s w Q hr hQ)⟩
    | true =>
      simp only [execA] at h
      split at h
      · rename_i hc
        simp only [Bool.and_eq_true] at hc
        obtain ⟨hsel, hmix⟩ := hc
        split at h
        · rename_i hsub
          generalize hS : heldA ops st = mS at *
          cases hl : anyA P T call ops mS st.n (ops.size + 1) (Array.replicate ops.size false) { st with n := st.n + ops.size } with
          | none => simp [hl] at h
          | some st1 =>
            simp [hl] at h
            obtain ⟨rfl, rfl⟩ := h
            have hsub' := sub_ok hsub
            have key := fun (sS : Nat → Nat) => any_ok (ρ := ρ) (n0 := n0) (w0 := w0) (sS := sS) (m0 := st.m) hT hcall hsel hsub' ops.size (listed := Array.replicate ops.size false) (st := { st with n := st.n + ops.size }) hf Grows.refl hsub' hl
            obtain ⟨g1, f1, _⟩ := key fun _ => 0
            refine ⟨g1, f1, fun s w Q hq hr hQ => ?_⟩
            exact wp_region_held hmix ((key s).2.2 s _ Q hq hr.drew Ext.refl hr.wf hQ)
        · cases h
      · cases h
  | seq a b iha ihb =>
    intro st x st' hf h
    simp only [execA] at h
    split at h
    · rename_i st1 h1
      obtain ⟨g1, f1, k1⟩ := iha hf h1
      obtain ⟨g2, f2, k2⟩ := ihb f1 h
      refine ⟨g1.trans g2, f2, fun s w Q hq hr hQ => wp_seq ?_⟩
      exact k1 s w _ (hq.then _) hr fun s1 w1 e1 r1 => k2 s1 w1 Q hq r1 fun s2 w2 e2 r2 => hQ s2 w2 (e1.trans g1 e2) r2
    · rename_i hne
      obtain ⟨g1, f1, k1⟩ := iha hf h
      refine ⟨g1, f1, fun s w Q hq hr hQ => wp_seq ?_⟩
      refine k1 s w _ (hq.then _) hr fun s1 w1 e1 r1 => ?_
      have := hQ s1 w1 e1 r1
      cases x with
      | nor => exact (hne _ h).elim
      | exit i => exact this
      | ret => exact this
  | cond c a b iha ihb =>
    intro st x st' hf h
    simp only [execA] at h
    split at h
    · rename_i hc
      obtain ⟨g1, f1, k1⟩ := iha hf h
      exact ⟨g1, f1, fun s w Q hq hr hQ => wp_cond_true (evalC_ok (ρ := ρ) (s := s) hc) (k1 s w Q hq hr hQ)⟩
    · rename_i hc
      obtain ⟨g1, f1, k1⟩ := ihb hf h
      exact ⟨g1, f1, fun s w Q hq hr hQ => wp_cond_false (evalC_ok (ρ := ρ) (s := s) hc) (k1 s w Q hq hr hQ)⟩
    · cases h
  | block id c ih =>
    intro st x st' hf h
    simp only [execA] at h
    split at h
    · rename_i i st1 h1
      obtain ⟨g1, f1, k1⟩ := ih hf h1
      split at h
      · rename_i e
        cases h
        refine ⟨g1, f1, fun s w Q hq hr hQ => wp_block (k1 s w _ (hq.inBlock _) hr fun s1 w1 e1 r1 => ?_)⟩
        simp only [XX.toExit, Exit.inBlock, e, if_true]
        exact hQ s1 w1 e1 r1
      · rename_i e
        cases h
        refine ⟨g1, f1, fun s w Q hq hr hQ => wp_block (k1 s w _ (hq.inBlock _) hr fun s1 w1 e1 r1 => ?_)⟩
        simp only [XX.toExit, Exit.inBlock, e, if_false]
        exact hQ s1 w1 e1 r1
    · rename_i hne
      obtain ⟨g1, f1, k1⟩ := ih hf h
      refine ⟨g1, f1, fun s w Q hq hr hQ => wp_block (k1 s w _ (hq.inBlock _) hr fun s1 w1 e1 r1 => ?_)⟩
      have := hQ s1 w1 e1 r1
      cases x with
      | nor => exact this
      | exit i => exact (hne _ _ h).elim
      | ret => exact this
  | loop c ih =>
    intro st x st' hf h
    simp only [execA] at h
    obtain ⟨g1, f1, k1⟩ := loop_ok (fun st x st' hf h => ih hf h) 1000 hf h
    exact ⟨g1, f1, fun s w Q hq hr hQ => wp_rounds 1000 (k1 s w Q hq hr hQ)⟩
  | scope c ih =>
    intro st x st' hf h
    simp only [execA] at h
    obtain ⟨g1, f1, k1⟩ := ih hf h
    refine ⟨g1, f1, fun s w Q hq hr hQ => wp_scope_straight (k1 s w _ hq.noGoto hr fun s1 w1 e1 r1 => ?_)⟩
    have := hQ s1 w1 e1 r1
    cases x <;> exact this

/-! ### Calls -/
/-- The table of contracts is right. -/
def ConPost (ρ : Nat → Int) (s : Nat → Nat) (n : Nat) (w : World) (v : AV) (new : Option (List CV)) (e : Ending) (w' : World) : Prop :=
  match new with
  | none => e = .returned (γ ρ s v) ∧ Below w.heap.size w w'
  | some cs => ∃ B, w.heap.size ≤ B ∧ B < w'.heap.size ∧ Below w.heap.size w w' ∧ (∀ j c, cs[j]? = some c → w'.cell? ⟨B, j, none⟩ = some (γC ρ s c)) ∧
      ∀ s' : Nat → Nat, s' n = B → e = .returned (γ ρ s' v)
def TabCon (P : Program) (ρ : Nat → Int) (T : Tab) : Prop :=
  ∀ f args n v new, T.con f args n = some (v, new) → ∀ (s : Nat → Nat) (w : World), Calls P f (args.map (γ ρ s)).toArray w (ConPost ρ s n w v new)

def resSem (tmps : Array Value) : ResultVar → Sem Value
  | .tmp t => pure (tmps.getD t undef)
  | .cell a t => do loadVar t (← asAddr (tmps.getD a undef))
theorem run_results {st : St} (hC : Cells ρ s st.m w) : ∀ {rs : List ResultVar} {l : List TV}, resultsA P st rs = some l →
    (rs.mapM (resSem (act ρ s st.fr).tmps)).run P w = .ok (l.map (γT ρ s)) w
  | [], l, h => by simp [resultsA] at h; subst h; simp
  | .tmp t :: rs, l, h => by
    simp only [resultsA] at h
    split at h
    · rename_i x r h1 h2
      cases h
      have e : (act ρ s st.fr).tmps.getD t undef = γT ρ s x := evalA_ok (x := .tmp t) h1
      simp only [List.mapM_cons, resSem, Sem.run_bind, Sem.run_pure, Result.andThen_ok, e, run_results hC h2, List.map_cons]
    · cases h
  | .cell a t :: rs, l, h => by
    simp only [resultsA] at h
    split at h
    · rename_i b o r h1 h2
      cases hl : loadA P st.m t b o with
      | none => simp [hl] at h
      | some x =>
        simp [hl] at h; subst h
        have e : (act ρ s st.fr).tmps.getD a undef = .pointer (some ⟨s b, o, none⟩) := evalA_ok (x := .tmp a) h1
        have := run_loadAt' (P := P) hC hl
        simp only [Instr.loadAt, Instr.sureAddr, Sem.run_bind, Sem.run_pure, Result.andThen_ok] at this
        simp only [List.mapM_cons, resSem, Sem.run_bind, Sem.run_pure, Result.andThen_ok, e, asAddr, this, run_results hC h2, List.map_cons]
    · cases h
theorem results_ok {fn : Func} {st : St} {l : List TV} (hC : Cells ρ s st.m w) (h : resultsA P st fn.results.toList = some l) :
    (results fn (act ρ s st.fr).tmps).run P w = .ok (γ ρ s (packA l)) w := by
  have h1 := run_results (P := P) hC h
  have e : results fn (act ρ s st.fr).tmps = (do let vs ← fn.results.mapM (resSem (act ρ s st.fr).tmps); pure (if h : vs.size = 1 then vs[0] else .tuple vs)) := rfl
  rw [e, Array.mapM_eq_mapM_toList]
  simp only [Sem.run_bind, Sem.run_map, h1, Result.andThen_ok, Sem.run_pure]
  congr 1
  match l with
  | [] => rfl
  | [x] => rfl
  | x :: y :: l => simp [packA, γ]

theorem call_ok (hT : TabOp P ρ T) (hcon : TabCon P ρ T) : ∀ d, CallOk P ρ n0 w0 (callA P T d)
  | 0 => fun f args m n v m' n' h => by simp [callA] at h
  | d + 1 => by
    intro f args m n v m' n' h hargs
    simp only [callA] at h
    split at h
    · rename_i v1 hc
      cases h
      refine ⟨Grows.refl, fun s w hr => ?_⟩
      refine (hcon _ _ _ _ _ hc s w).mono fun e w' ⟨he, hb⟩ => ⟨s, Ext.refl, he, hr.call hb⟩
    · rename_i v1 cs hc
      split at h
      · cases h
      · rename_i hn
        split at h
        · rename_i hwf
          cases h
          refine ⟨grows_put _ _, fun s w hr => ?_⟩
          refine (hcon _ _ _ _ _ hc s w).mono fun e w' ⟨B, h1, h2, h3, h4, h5⟩ => ?_
          obtain ⟨s', k1, k2, k3⟩ := hr.put (nm := n) (wr := false) h3 (by simpa using hn) h1 h2 hwf h4 (fun h => by cases h)
          exact ⟨s', k1, h5 s' k2, k3⟩
        · cases h
    · split at h
      · rename_i fn hfn
        split at h
        · rename_i c hb
          have hf0 : FrWf m (args ++ List.replicate (fn.ntmps - args.length) nilA) := by
            intro u hu
            rcases List.mem_append.1 hu with hu | hu
            · exact hargs u hu
            · rw [List.eq_of_mem_replicate hu]; rfl
          have fin : ∀ {x : XX} {st : St}, execA P T (callA P T d) c ⟨args ++ List.replicate (fn.ntmps - args.length) nilA, m, n⟩ = some (x, st) → (x.toExit = .normal ∨ x.toExit = .ret) →
              (resultsA P st fn.results.toList).map (fun r => (packA r, st.m, st.n)) = some (v, m', n') → Grows m m' ∧
              ∀ s w, Rel ρ n0 w0 s m w → Calls P f (args.map (γ ρ s)).toArray w fun e w' => ∃ s', Ext m s s' ∧ e = .returned (γ ρ s' v) ∧ Rel ρ n0 w0 s' m' w' := by
            intro x st hx hxe hres
            simp only [Option.map_eq_some_iff, Prod.mk.injEq] at hres
            obtain ⟨l, hl, rfl, rfl, rfl⟩ := hres
            obtain ⟨g1, f1, k1⟩ := exec_ok hT (call_ok hT hcon d) c hf0 hx
            refine ⟨g1, fun s w hr => ?_⟩
            refine calls_of_wp hfn hb ?_
            have e : ({ tmps := (args.map (γ ρ s)).toArray ++ Array.replicate (fn.ntmps - (args.map (γ ρ s)).toArray.size) undef, defers := [] } : Act) = act ρ s (args ++ List.replicate (fn.ntmps - args.length) nilA) := by
              simp [act, nil_γ]
            rw [e]
            refine k1 s w _ (fun c a d v w hp => ?_) hr fun s1 w1 e1 r1 => ?_
            · cases d <;> exact hp
            · have hres := results_ok (fn := fn) r1.cells hl
              have hbp : bodyPost P fn (fun e w' => ∃ s', Ext m s s' ∧ e = .returned (γ ρ s' (packA l)) ∧ Rel ρ n0 w0 s' st.m w') .ret (act ρ s1 st.fr) w1 :=
                ⟨rfl, _, hres, s1, e1, rfl, r1⟩
              rcases hxe with hxe | hxe <;> rw [hxe] <;> exact hbp
          split at h
          · rename_i st hx; exact fin hx (.inl rfl) h
          · rename_i st hx; exact fin hx (.inr rfl) h
          · cases h
        · cases h
      · cases h

/-- **A function run from nothing.** -/
theorem run_ok (hT : TabOp P ρ T) (hcon : TabCon P ρ T) {d : Nat} {f : FuncId} {args : List AV} {v : AV} (h : runA P T d f args = some v) (hargs : ∀ u ∈ args, u.wf [] = true) (s : Nat → Nat) (w : World) :
    Calls P f (args.map (γ ρ s)).toArray w fun e w' => (∃ s', e = .returned (γ ρ s' v)) ∧ Below w.heap.size w w' := by
  unfold runA at h
  simp only [Option.map_eq_some_iff] at h
  obtain ⟨⟨v1, m1, n1⟩, h, rfl⟩ := h
  have hr : Rel ρ w.heap.size w s [] w := ⟨fun b x hx => (nomatch hx), fun b x hx => (nomatch hx), fun b x hx => (nomatch hx), fun b b' hb => (nomatch hb), fun b x hx => (nomatch hx), Below.refl _ _, Nat.le_refl _⟩
  obtain ⟨_, k⟩ := call_ok (n0 := w.heap.size) (w0 := w) hT hcon d f args [] 0 v1 m1 n1 h hargs
  exact (k s w hr).mono fun e w' ⟨s', _, he, hr'⟩ => ⟨⟨s', he⟩, hr'.below⟩

end
end Go.Proofs.Ytpdaigenffecmaa
