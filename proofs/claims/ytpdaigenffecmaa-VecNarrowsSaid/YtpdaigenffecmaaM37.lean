/-
  The executor is right: operations that change nothing.
-/
import Derived.Test.YtpdaigenffecmaaM36
set_option linter.all false
namespace Go.Proofs.Ytpdaigenffecmaa
open Go Go.RowKit

section
variable {P : Program} {ρ : Nat → Int} {s s' : Nat → Nat} {m m' : Mem} {w w' : World} {fr : Frm} {T : Tab}

theorem run_und {t : TypeId} {d : TypeDesc} (h : P.underlying t = some d) : (underlying t).run P w = .ok d w := run_underlying h w
theorem run_isAgg' {t : TypeId} {b : Bool} (h : aggB P t = some b) : (isAgg t).run P w = .ok b w := by
  unfold aggB at h
  unfold isAgg
  cases hd : P.underlying t with
  | none => simp [hd] at h
  | some d =>
    simp only [hd] at h
    simp only [Sem.run_bind, run_und hd, Result.andThen_ok]
    cases d <;> simp at h <;> subst h <;> rfl
theorem info_of_size {t : TypeId} {n : Nat} (h : sizeB P t = some n) : ∃ i, P.info? t = some i ∧ i.size = n := by
  unfold sizeB at h
  cases hi : P.info? t with
  | none => simp [hi] at h
  | some i => simp [hi] at h; exact ⟨i, rfl, h⟩
theorem run_sizeOf' {t : TypeId} {n : Nat} (h : sizeB P t = some n) : (sizeOf t).run P w = .ok n w := by
  obtain ⟨i, hi, rfl⟩ := info_of_size h
  simp [sizeOf, typeInfo, hi]
theorem run_part' {t : TypeId} {cs : List CV} {off : Nat} {v : TV} (h : partA P t cs off = some v) :
    (part t (cs.map (γC ρ s)).toArray off).run P w = .ok (γT ρ s v) w := by
  unfold partA at h
  unfold part
  split at h
  · rename_i e
    split at h
    · rename_i n en
      cases h
      simp only [Sem.run_bind, run_isAgg' e, Result.andThen_ok, if_true, run_sizeOf' en, Sem.run_pure]
      simp [γT, List.extract_eq_take_drop]
    · cases h
  · rename_i e
    cases hc : cs[off]? with
    | none => simp [hc] at h
    | some c =>
      simp [hc] at h; subst h
      simp only [Sem.run_bind, run_isAgg' e, Result.andThen_ok]
      simp [hc, γT]
  · cases h

theorem run_loadFrom (a : Addr) (ha : a.spot = none) : ∀ (cs : List Value) (i : Nat) (acc : Array Value),
    (∀ j c, cs[j]? = some c → w.cell? ⟨a.block, a.off + i + j, none⟩ = some c) →
    (loadCellsFrom a i cs.length acc).run P w = .ok (acc ++ cs.toArray) w
  | [], i, acc, _ => by simp [loadCellsFrom]
  | c :: cs, i, acc, h => by
    have h0 := h 0 c rfl
    have hadd : a.add i = ⟨a.block, a.off + i, none⟩ := by
      unfold Addr.add
      split
      · rename_i e; subst e; cases a; simp at ha; simp [ha]
      · rfl
    have ih := run_loadFrom a ha cs (i + 1) (acc.push c) (fun j d hj => by
      have := h (j + 1) d (by simpa using hj)
      simpa [Nat.add_assoc, Nat.add_comm 1 j] using this)
    simp only [List.length_cons, loadCellsFrom, Sem.run_bind, hadd, run_load, h0, Nat.add_zero] at *
    simp only [h0, Result.andThen_ok, ih]
    simp
theorem run_loadAt' {t : TypeId} {b off : Nat} {v : TV} (hC : Cells ρ s m w) (h : loadA P m t b off = some v) :
    (Instr.loadAt t (.pointer (some ⟨s b, off, none⟩))).run P w = .ok (γT ρ s v) w := by
  unfold loadA at h
  cases hx : m.get b with
  | none => simp [hx] at h
  | some x =>
    simp only [hx] at h
    have hc := hC b x hx
    unfold Instr.loadAt Instr.sureAddr
    simp only [Sem.run_bind, Sem.run_pure, Result.andThen_ok]
    unfold loadVar
    split at h
    · rename_i e
      split at h
      · rename_i n en
        split at h
        · rename_i hle
          cases h
          have hle' : off + n ≤ x.cs.length := by simpa using hle
          have := run_loadFrom (P := P) (w := w) ⟨s b, off, none⟩ rfl (((x.cs.drop off).take n).map (γC ρ s)) 0 #[] (fun j c hj => by
            simp only [List.getElem?_map, List.getElem?_take, List.getElem?_drop, Option.map_eq_some_iff] at hj
            obtain ⟨c', hj, rfl⟩ := hj
            split at hj
            · have := hc (off + j) c' hj
              simpa using this
            · cases hj)
          have hl : (((x.cs.drop off).take n).map (γC ρ s)).length = n := by simp; omega
          rw [hl] at this
          simp only [Sem.run_bind, run_isAgg' e, Result.andThen_ok, if_true, run_sizeOf' en, loadCells, this, Sem.run_pure]
          simp [γT]
        · cases h
      · cases h
    · rename_i e
      cases hcc : x.cs[off]? with
      | none => simp [hcc] at h
      | some c =>
        simp [hcc] at h; subst h
        simp only [Sem.run_bind, run_isAgg' e, Result.andThen_ok, Bool.false_eq_true, if_false, run_load, hc off c hcc]
        rfl
    · cases h

/-! ### Building -/
theorem fold_set (off : Nat) : ∀ (vs : List Value) (k : Nat) (cs : List Value), off + k + vs.length ≤ cs.length →
    (vs.zipIdx k).foldl (fun (a : Array Value) p => a.setIfInBounds (off + p.2) p.1) cs.toArray = (cs.take (off + k) ++ vs ++ cs.drop (off + k + vs.length)).toArray
  | [], k, cs, _ => by simp
  | v :: vs, k, cs, h => by
    simp only [List.length_cons] at h
    have ih := fold_set off vs (k + 1) (cs.set (off + k) v) (by simp; omega)
    simp only [List.zipIdx_cons, List.foldl_cons, List.setIfInBounds_toArray, ih]
    have e1 : (cs.set (off + k) v).take (off + (k + 1)) = cs.take (off + k) ++ [v] := by
      rw [List.set_eq_take_append_cons_drop, if_pos (by omega), show off + (k + 1) = (off + k) + 1 from by omega, List.take_append]
      have hl : (cs.take (off + k)).length = off + k := by simp; omega
      rw [hl, List.take_of_length_le (by omega)]
      simp
    have e2 : (cs.set (off + k) v).drop (off + (k + 1) + vs.length) = cs.drop (off + k + (vs.length + 1)) := by
      rw [List.drop_set, if_pos (by omega)]
      congr 1; omega
    rw [e1, e2]
    simp
theorem γT_cells (v : TV) : (γT ρ s v).cells = (v.cells.map (γC ρ s)).toArray := by
  cases v with
  | one c => cases c <;> rfl
  | agg l => rfl
theorem splice_map (cs vs : List CV) (off : Nat) (f : CV → Value) : (splice cs off vs).map f = (cs.map f).take off ++ vs.map f ++ (cs.map f).drop (off + (vs.map f).length) := by
  simp [splice, List.map_take, List.map_drop]
theorem splice_length {cs vs : List CV} {off : Nat} (h : off + vs.length ≤ cs.length) : (splice cs off vs).length = cs.length := by
  simp [splice]; omega
theorem fill_ok {place : Nat → Option (Nat × Nat)} : ∀ {ps : List (Nat × TV)} {cs r : List CV}, fillA place cs ps = some r →
    Instr.fill place (cs.map (γC ρ s)).toArray (ps.map (fun p => (p.1, γT ρ s p.2))) = some (r.map (γC ρ s)).toArray
  | [], cs, r, h => by simp [fillA] at h; subst h; rfl
  | (i, v) :: ps, cs, r, h => by
    simp only [fillA] at h
    simp only [List.map_cons, Instr.fill]
    cases hp : place i with
    | none => simp [hp] at h
    | some q =>
      obtain ⟨off, size⟩ := q
      simp only [hp] at h ⊢
      split at h
      · rename_i hc
        simp only [Bool.and_eq_true, Nat.ble_eq] at hc
        obtain ⟨h1, h2⟩ := hc
        replace h1 : v.cells.length = size := Nat.eq_of_beq_eq_true h1
        have hn : (γT ρ s v).cells.size = size := by rw [γT_cells]; simp [h1]
        rw [if_neg (by rw [hn]; simp; omega)]
        have ih := fill_ok h
        have hz : (γT ρ s v).cells.zipIdx.foldl (fun (a : Array Value) p => a.setIfInBounds (off + p.2) p.1) (cs.map (γC ρ s)).toArray = ((splice cs off v.cells).map (γC ρ s)).toArray := by
          rw [γT_cells, Array.zipIdx_toArray, List.foldl_toArray' _ _ _ (by simp), fold_set off _ 0 _ (by simp; omega), splice_map]
          · simp
        rw [← ih]
        congr 1
      · cases h
theorem zero_ok {t : TypeId} {z : TV} (h : zeroA P t = some z) : (zeroValue t).run P w = .ok (γT ρ s z) w := by
  unfold zeroA at h
  unfold zeroValue typeInfo
  cases hi : P.info? t with
  | none => simp [hi] at h
  | some i =>
    simp only [hi] at h
    cases hz : i.zero with
    | none => simp [hz] at h
    | some u =>
      simp only [hz] at h
      simp [hi, hz, reifyT_ok h]
theorem run_sizes : ∀ {fs : List Field} {pl : List (Nat × Nat)}, sizesB P fs = some pl →
    (fs.mapM fun f => do pure (f.offset, ← sizeOf f.type) : Sem (List (Nat × Nat))).run P w = .ok pl w
  | [], pl, h => by simp [sizesB] at h; subst h; simp
  | f :: fs, pl, h => by
    simp only [sizesB] at h
    split at h
    · rename_i n r h1 h2
      cases h
      simp only [List.mapM_cons, Sem.run_bind, run_sizeOf' h1, Result.andThen_ok, Sem.run_pure, run_sizes h2]
    · cases h
theorem run_build' {t : TypeId} {ps : List (Nat × TV)} {v : TV} (h : buildA P t ps = some v) (parts : Array (Nat × Value))
    (hp : parts.toList = ps.map (fun p => (p.1, γT ρ s p.2))) : (Instr.build t parts).run P w = .ok (γT ρ s v) w := by
  unfold buildA at h
  unfold Instr.build
  split at h
  · rename_i z fs hz hu
    cases hs : sizesB P fs.toList with
    | none => simp [hs] at h
    | some pl =>
      simp only [hs] at h
      cases hf : fillA (fun i => pl[i]?) z.cells ps with
      | none => simp [hf] at h
      | some r =>
        simp [hf] at h; subst h
        have hfo := fill_ok (ρ := ρ) (s := s) hf
        have hm : (fs.mapM fun f => do pure (f.offset, ← sizeOf f.type) : Sem (Array (Nat × Nat))).run P w = .ok pl.toArray w := by
          rw [Array.mapM_eq_mapM_toList, Sem.run_map, run_sizes hs]; rfl
        simp only [Sem.run_bind, zero_ok (ρ := ρ) (s := s) hz, run_und hu, Result.andThen_ok, hm, γT_cells, hp]
        have e : (fun i : Nat => pl.toArray[i]?) = fun i => pl[i]? := by funext i; simp
        simp only [e, hfo]
        rfl
  · rename_i z n e hz hu
    cases hn : sizeB P e with
    | none => simp [hn] at h
    | some k =>
      simp only [hn] at h
      cases hf : fillA (fun i => some (i * k, k)) z.cells ps with
      | none => simp [hf] at h
      | some r =>
        simp [hf] at h; subst h
        have hfo := fill_ok (ρ := ρ) (s := s) hf
        simp only [Sem.run_bind, zero_ok (ρ := ρ) (s := s) hz, run_und hu, Result.andThen_ok, run_sizeOf' hn, γT_cells, hp, hfo]
        rfl
  · cases h

theorem run_index' {t : TypeId} {cs : List CV} {k : IntKind} {i : Int} {v : TV} (h : indexA P t cs i = some v) :
    (Instr.index t (.agg (cs.map (γC ρ s)).toArray) (.int k i)).run P w = .ok (γT ρ s v) w := by
  unfold indexA at h
  unfold Instr.index
  split at h
  · rename_i len e hu
    split at h
    · rename_i n hn
      split at h
      · rename_i hi
        simp only [asIntOf, Sem.run_bind, Sem.run_pure, Result.andThen_ok, run_und hu, if_pos hi, run_sizeOf' hn, run_part' h]
      · cases h
    · cases h
  · cases h
theorem run_field' {t : TypeId} {cs : List CV} {f : Nat} {v : TV} (h : fieldA P t cs f = some v) :
    (Instr.field t (.agg (cs.map (γC ρ s)).toArray) f).run P w = .ok (γT ρ s v) w := by
  unfold fieldA at h
  unfold Instr.field
  split at h
  · rename_i fs hu
    split at h
    · rename_i x hx
      simp only [Sem.run_bind, Sem.run_pure, Result.andThen_ok, run_und hu, hx, asAgg, run_part' h]
    · cases h
  · cases h
theorem add_plain (a : Addr) (ha : a.spot = none) (n : Nat) : a.add n = ⟨a.block, a.off + n, none⟩ := by
  unfold Addr.add
  split
  · rename_i e; subst e; cases a; simp at ha; simp [ha]
  · rfl

/-! ### All of them -/
/-- The table of operations is right. -/
def TabOp (P : Program) (ρ : Nat → Int) (T : Tab) : Prop :=
  ∀ o vs v, T.op o vs = some v → ∀ (s : Nat → Nat) (ev : Operand → Value), o.operands.toList.map ev = vs.map (γ ρ s) →
    ∀ (x : Oper) (w : World), x.op = o → (execOp ev x).run P w = .ok (.value (γ ρ s v)) w
theorem pure_ok (hT : TabOp P ρ T) (hg : Gl s) (hC : Cells ρ s m w) (o : Oper) {v : AV} (h : pureA P T m fr o.op = some v) :
    (execOp (act ρ s fr).eval o).run P w = .ok (.value (γ ρ s v)) w := by
  obtain ⟨dst, op, ty, pos, aft, gd⟩ := o
  have ext : ∀ vs, evalL fr op.operands.toList = some vs → T.op op vs = some v →
      (execOp (act ρ s fr).eval ⟨dst, op, ty, pos, aft, gd⟩).run P w = .ok (.value (γ ρ s v)) w :=
    fun vs hl ho => hT _ _ _ ho s _ (evalL_ok hg hl) _ w rfl
  cases op with
  | move x => simp only [pureA] at h; simp [execOp, evalA_ok hg h]
  | assign x => simp only [pureA] at h; simp [execOp, evalA_ok hg h]
  | pick c a b =>
    simp only [pureA] at h
    split at h
    · rename_i hc; simp [execOp, evalC_ok (ρ := ρ) (s := s) hg hc, γC, asBool, evalA_ok hg h]
    · rename_i hc; simp [execOp, evalC_ok (ρ := ρ) (s := s) hg hc, γC, asBool, evalA_ok hg h]
    · cases h
  | load t a =>
    simp only [pureA] at h
    split at h
    · rename_i b off hc
      cases hl : loadA P m t b off with
      | none => simp [hl] at h
      | some u =>
        simp [hl] at h; subst h
        simp only [execOp, Sem.run_bind, evalC_ok (ρ := ρ) (s := s) hg hc, γC, run_loadAt' hC hl, Result.andThen_ok, Sem.run_pure, γ]
    · cases h
  | nilCheck x =>
    simp only [pureA] at h
    split at h
    · rename_i hc; cases h; simp [execOp, evalC_ok (ρ := ρ) (s := s) hg hc, γC, γ, γT]
    · rename_i hc; cases h; simp [execOp, evalC_ok (ρ := ρ) (s := s) hg hc, γC, γ, γT]
    · rename_i hc; cases h; simp [execOp, evalC_ok (ρ := ρ) (s := s) hg hc, γC, γ, γT]
    · cases h
  | fieldAddr t x f =>
    simp only [pureA] at h
    split at h
    · rename_i b off fs hc hu
      split at h
      · rename_i y hy
        split at h
        · rename_i n hn
          cases h
          simp [execOp, evalC_ok (ρ := ρ) (s := s) hg hc, γC, γ, γT, Instr.fieldAt, run_und hu, hy, Instr.sureAddr, fieldPlace, run_sizeOf' hn, add_plain]
        · cases h
      · cases h
    · cases h
  | field t x f =>
    simp only [pureA] at h
    split at h
    · rename_i cs hc
      cases hl : fieldA P t cs f with
      | none => simp [hl] at h
      | some u =>
        simp [hl] at h; subst h
        simp only [execOp, Sem.run_bind, evalT_ok (ρ := ρ) (s := s) hg hc, γT, run_field' hl, Result.andThen_ok, Sem.run_pure, γ]
    · cases h
  | indexAddr t x ix =>
    simp only [pureA] at h
    split at h
    · rename_i b off k i len e hc hi hu
      split at h
      · rename_i n hn
        split at h
        · rename_i hb
          cases h
          simp [execOp, evalC_ok (ρ := ρ) (s := s) hg hc, evalC_ok (ρ := ρ) (s := s) hg hi, γC, γI, γ, γT, Instr.indexAt, asIntOf, run_und hu, Instr.sureAddr, run_sizeOf' hn, add_plain, hb]
        · cases h
      · cases h
    · rename_i b off len k i e c hc hi hu
      split at h
      · rename_i n hn
        split at h
        · rename_i hb
          cases h
          simp [execOp, evalC_ok (ρ := ρ) (s := s) hg hc, evalC_ok (ρ := ρ) (s := s) hg hi, γC, γI, γ, γT, Instr.indexAt, asIntOf, run_und hu, Instr.sureAddr, run_sizeOf' hn, add_plain, hb]
        · cases h
      · cases h
    · cases h
  | index t x ix =>
    simp only [pureA] at h
    split at h
    · rename_i cs k i hc hi
      cases hl : indexA P t cs i with
      | none => simp [hl] at h
      | some u =>
        simp [hl] at h; subst h
        simp only [execOp, Sem.run_bind, evalT_ok (ρ := ρ) (s := s) hg hc, evalC_ok (ρ := ρ) (s := s) hg hi, γT, γC, γI, run_index' hl, Result.andThen_ok, Sem.run_pure, γ]
    · cases h
  | extract x i =>
    simp only [pureA] at h
    split at h
    · rename_i l hc
      cases hl : l[i]? with
      | none => simp [hl] at h
      | some u =>
        simp [hl] at h; subst h
        simp [execOp, evalA_ok (ρ := ρ) (s := s) hg hc, γ, Instr.extract, hl]
    · cases h
  | build t parts =>
    simp only [pureA] at h
    split at h
    · rename_i ps hc
      cases hl : buildA P t ps with
      | none => simp [hl] at h
      | some u =>
        simp [hl] at h; subst h
        have hp := evalParts_ok (ρ := ρ) (s := s) hg hc
        simp only [execOp, Sem.run_bind]
        rw [run_build' (ρ := ρ) (s := s) hl _ (by rw [← hp]; simp)]
        rfl
    · cases h
  | makeFunc fn first caps =>
    cases fn with
    | func f => ?_
    | _ =>
      simp only [pureA] at h
      split at h
      · exact ext _ ‹_› h
      · cases h
    simp only [pureA] at h
    split at h
    · rename_i a c ha hc
      split at h
      · rename_i a' c' ha' hc'
        cases h
        have h1 := (evalL_ok (ρ := ρ) (s := s) hg ha).trans (ptrsOf_ok ha')
        have h2 := (evalL_ok (ρ := ρ) (s := s) hg hc).trans (ptrsOf_ok hc')
        have e1 : first.map (act ρ s fr).eval = (a'.map (γP s)).toArray := Array.ext' (by rw [Array.toList_map, h1])
        have e2 : caps.map (act ρ s fr).eval = (c'.map (γP s)).toArray := Array.ext' (by rw [Array.toList_map, h2])
        simp only [execOp, Instr.makeFunc, Sem.run_bind, Sem.run_pure, Result.andThen_ok, γ, γT, γC, e1, e2]
      · cases h
    · cases h
  | slice t x lo hi mx =>
    simp only [pureA] at h
    split at h
    · rename_i b off len cap e l hb hx hu hl hh
      split at h
      · rename_i n hn
        split at h
        · rename_i hc
          cases h
          have bnd : ∀ {z : Option Operand} {y : Option Nat}, boundA fr z = some y → (z = none ∧ y = none) ∨ ∃ q k i, z = some q ∧ (act ρ s fr).eval q = .int k i ∧ 0 ≤ i ∧ y = some i.toNat := by
            intro z y hz
            unfold boundA at hz
            split at hz
            · cases hz; exact .inl ⟨rfl, rfl⟩
            · rename_i q
              split at hz
              · rename_i k i hq
                split at hz
                · rename_i hi; cases hz; exact .inr ⟨q, k, i, rfl, evalC_ok hg hq, hi, rfl⟩
                · cases hz
              · cases hz
          have sb : ∀ (k : IntKind) (i : Int) (y : Nat) code, 0 ≤ i → i ≤ y → (Instr.sliceBound (.int k i) y code).run P w = .ok i.toNat w := by
            intro k i y code h0 h1
            simp only [Instr.sliceBound, asIntOf, Sem.run_bind, Sem.run_pure, Result.andThen_ok]
            rw [if_pos ⟨h0, h1⟩]; rfl
          have hbs : (Instr.sliceBounds true len cap (lo.map (act ρ s fr).eval) (hi.map (act ρ s fr).eval) none).run P w = .ok (l.getD 0, hb.getD len, cap) w := by
            obtain ⟨c1, c2, c3⟩ := hc
            rcases bnd hh with ⟨rfl, rfl⟩ | ⟨q, k, i, rfl, hq, hi, rfl⟩ <;> rcases bnd hl with ⟨rfl, rfl⟩ | ⟨q', k', i', rfl, hq', hi', rfl⟩
            · rfl
            · simp only [Option.getD_some, Option.getD_none] at c1 c2 c3
              simp only [Instr.sliceBounds, Option.map_some, Option.map_none, hq', Sem.run_bind, Sem.run_pure, Result.andThen_ok, sb _ _ _ _ hi' (by omega : i' ≤ (len : Int))]
              rfl
            · simp only [Option.getD_some, Option.getD_none] at c1 c2 c3
              simp only [Instr.sliceBounds, Option.map_some, Option.map_none, hq, Sem.run_bind, Sem.run_pure, Result.andThen_ok, if_true, sb _ _ _ _ hi (by omega : i ≤ (cap : Int))]
              rfl
            · simp only [Option.getD_some, Option.getD_none] at c1 c2 c3
              simp only [Instr.sliceBounds, Option.map_some, Option.map_none, hq, hq', Sem.run_bind, Sem.run_pure, Result.andThen_ok, if_true, sb _ _ _ _ hi (by omega : i ≤ (cap : Int)), sb _ _ _ _ hi' (by omega : i' ≤ (i.toNat : Int))]
              rfl
          simp only [execOp, Sem.run_bind, evalC_ok (ρ := ρ) (s := s) hg hx, γC, Instr.sliceAt, run_und hu, Result.andThen_ok, Instr.slice, Option.map_none, hbs, run_sizeOf' hn, Sem.run_pure]
          rw [if_neg (by omega)]
          simp [γ, γT, γC, add_plain]
        · cases h
      · cases h
    · cases h
  | unOp u t x =>
    cases u with
    | not => ?_
    | _ =>
      simp only [pureA] at h
      split at h
      · exact ext _ ‹_› h
      · cases h
    simp only [pureA] at h
    split at h
    · rename_i b hc; cases h; simp [execOp, evalC_ok (ρ := ρ) (s := s) hg hc, γC, γ, γT, Op.unary]
    · cases h
  | alloc t => cases h
  | box t x => cases h
  | buildSlice t l x => cases h
  | store t a x => cases h
  | _ =>
    simp only [pureA] at h
    split at h
    · exact ext _ ‹_› h
    · cases h

end
end Go.Proofs.Ytpdaigenffecmaa
