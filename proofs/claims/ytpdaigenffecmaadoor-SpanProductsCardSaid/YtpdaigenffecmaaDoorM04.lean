/-
  The executor is right: regions that draw their order, code, calls. The executor's tables: arithmetic and comparisons; contracts by a list.
-/
import Derived.Test.YtpdaigenffecmaaDoorM03
set_option linter.all false
namespace Go.Proofs.YtpdaigenffecmaaDoor
open Go Go.RowKit

section
variable {P : Program} {ρ : Nat → Int} {n0 : Nat} {w0 : World} {s s' : Nat → Nat} {m m' : Mem} {w w' : World} {fr : Frm} {T : Tab}

theorem sub_ok : ∀ {a : Mem}, subM a m = true → ∀ b x, a.get b = some x → m.get b = some x
  | [], _, b, x, h => by simp [Mem.get] at h
  | y :: a, hs, b, x, h => by
    simp only [subM, List.all_cons, Bool.and_eq_true] at hs
    simp only [Mem.get] at h
    split at h
    · rename_i e
      cases h
      have e' := Nat.eq_of_beq_eq_true e
      have h1 := hs.1
      rw [e'] at h1
      cases hm : Mem.get m b with
      | none => simp [hm] at h1
      | some z => simp [hm] at h1; rw [h1]
    · exact sub_ok (a := a) hs.2 b x h

/-! ### Bits for what is listed -/
theorem bitA_eq (L i : Nat) : bitA L i = L.testBit i := by
  have h : bitA L i = ((L >>> i) &&& 1 == 1) := by
    unfold bitA
    rw [Bool.eq_iff_iff]; simp only [beq_true', beq_iff_eq]; rfl
  rw [h, Nat.testBit]
  rw [Nat.and_comm]
  have : 1 &&& (L >>> i) = 0 ∨ 1 &&& (L >>> i) = 1 := by
    rw [Nat.one_and_eq_mod_two]; omega
  rcases this with h | h <;> rw [h] <;> rfl
structure Lists (L : Nat) (listed : Array Bool) (n : Nat) : Prop where
  size : listed.size = n
  at' : ∀ j (h : j < listed.size), listed[j] = bitA L j
  out : ∀ j, n ≤ j → bitA L j = false
theorem Lists.getT {L n : Nat} {listed : Array Bool} (h : Lists L listed n) {j : Nat} (hj : j < n) : listed.getD j true = bitA L j := by
  rw [Array.getD_eq_getD_getElem?, Array.getElem?_eq_getElem (by rw [h.size]; exact hj)]
  exact h.at' j _
theorem Lists.getF {L n : Nat} {listed : Array Bool} (h : Lists L listed n) (j : Nat) : listed.getD j false = bitA L j := by
  rw [Array.getD_eq_getD_getElem?]
  by_cases hj : j < n
  · rw [Array.getElem?_eq_getElem (by rw [h.size]; exact hj)]; exact h.at' j _
  · rw [Array.getElem?_eq_none (by rw [h.size]; omega), h.out j (by omega)]; rfl
theorem Lists.zero (n : Nat) : Lists 0 (Array.replicate n false) n := ⟨by simp, fun j h => by simp [bitA_eq], fun j _ => by simp [bitA_eq]⟩
theorem Lists.set {L n : Nat} {listed : Array Bool} (h : Lists L listed n) {i : Nat} (hi : i < n) : Lists (Nat.lor L (Nat.shiftLeft 1 i)) (listed.setIfInBounds i true) n := by
  have e : ∀ j, bitA (Nat.lor L (Nat.shiftLeft 1 i)) j = (bitA L j || decide (i = j)) := by
    intro j
    rw [bitA_eq, bitA_eq]
    show (L ||| (1 <<< i)).testBit j = _
    rw [Nat.testBit_or, Nat.one_shiftLeft, Nat.testBit_two_pow]
  refine ⟨by simp [h.size], fun j hj => ?_, fun j hj => ?_⟩
  · have hj' : j < listed.size := by simpa using hj
    rw [e, Array.getElem_setIfInBounds hj']
    split
    · rename_i e'; subst e'; simp
    · rename_i e'; rw [h.at']; simp [e']
  · rw [e, h.out j hj]; simp; omega
theorem allBits_eq (L : Nat) : ∀ l : List Nat, allBits L l = l.all (bitA L)
  | [] => rfl
  | i :: l => by simp only [allBits, List.all_cons, allBits_eq L l]; cases bitA L i <;> simp
theorem edges_ok {L n : Nat} {listed : Array Bool} (h : Lists L listed n) : ∀ l : List Edge, allBits L (edgesA l) = l.all fun e => !Region.binds .any e || listed.getD e.on false
  | [] => rfl
  | e :: l => by
    simp only [edgesA, List.all_cons, h.getF]
    split
    · rename_i hb; simp only [allBits_eq, List.all_cons, hb, Bool.not_true, Bool.false_or]; rw [← allBits_eq, edges_ok h l]; simp only [h.getF]
    · rename_i hb; simp only [Bool.not_eq_true] at hb; simp only [hb, Bool.not_false, Bool.true_or, Bool.true_and]; rw [edges_ok h l]; simp only [h.getF]
theorem ready_ok {L : Nat} {listed : Array Bool} {ops : Array Oper} (h : Lists L listed ops.size) : readyA L 0 (edgesOf ops.toList) = Region.ready .any ops listed := by
  have key : ∀ (l : List Oper) (k : Nat), (∀ j, l[j]? = ops[k + j]?) → k + l.length = ops.size → readyA L k (edgesOf l) =
      (List.range' k l.length).filter fun i => !listed.getD i true && ((ops[i]?).map (·.after.all fun e => !Region.binds .any e || listed.getD e.on false)).getD false := by
    intro l
    induction l with
    | nil => intro k _ _; rfl
    | cons o l ih =>
      intro k hk hl
      simp only [List.length_cons] at hl
      have h0 : ops[k]? = some o := by simpa using (hk 0).symm
      have ih' := ih (k + 1) (fun j => by have := hk (j + 1); simpa [Nat.add_assoc, Nat.add_comm 1 j] using this) (by omega)
      have e1 : listed.getD k true = bitA L k := h.getT (by omega)
      have e2 : allBits L (edgesA o.after.toList) = (o.after.all fun e => !Region.binds .any e || listed.getD e.on false) := by rw [edges_ok h]; simp
      simp only [edgesOf, List.map_cons, readyA, List.length_cons, List.range'_succ, List.filter_cons, h0, Option.map_some, Option.getD_some, e1, ← e2]
      rw [show readyA L (k + 1) (List.map (fun o => edgesA o.after.toList) l) = readyA L (k + 1) (edgesOf l) from rfl, ih']
      cases bitA L k <;> cases allBits L (edgesA o.after.toList) <;> simp
  unfold Region.ready
  rw [key ops.toList 0 (by simp) (by simp), List.range_eq_range']
  simp
theorem free_ok {L : Nat} {listed : Array Bool} {ops : Array Oper} (h : Lists L listed ops.size) {oi : Oper} {i : Nat} (hi : ops[i]? = some oi) (hf : freeA ops oi i L 0 ops.toList = true) :
    Region.free .any ops listed i = true := by
  have key : ∀ (l : List Oper) (k : Nat), (∀ j, l[j]? = ops[k + j]?) → freeA ops oi i L k l = true → ∀ j oj, k ≤ j → j < k + l.length → ops[j]? = some oj →
      (j == i || bitA L j || oj.after.any (fun e => Region.binds .any e && e.on == i) || oi.apart ops oj) = true := by
    intro l
    induction l with
    | nil => intro k _ _ j oj h1 h2; simp at h2; omega
    | cons o l ih =>
      intro k hk hfr j oj h1 h2 hj
      simp only [freeA, Bool.and_eq_true] at hfr
      by_cases e : j = k
      · subst e
        have h0 : ops[j]? = some o := by simpa using (hk 0).symm
        rw [hj] at h0; cases h0
        have := hfr.1
        have eb : Nat.beq j i = (j == i) := by rw [Bool.eq_iff_iff]; simp
        rwa [eb] at this
      · exact ih (k + 1) (fun j => by have := hk (j + 1); simpa [Nat.add_assoc, Nat.add_comm 1 j] using this) hfr.2 j oj (by omega) (by simp at h2; omega) hj
  unfold Region.free
  simp only [hi, List.all_eq_true, List.mem_range]
  intro j hj
  have hjs : ops[j]? = some ops[j] := Array.getElem?_eq_getElem hj
  have := key ops.toList 0 (by simp) hf j _ (by omega) (by simpa using hj) hjs
  rw [h.getT hj, hjs]
  simpa [Bool.or_assoc] using this

theorem take_ok {ops : Array Oper} {mS : Mem} {L : Nat} : ∀ {rs : List Nat} {i : Nat} {o : Oper} {v : AV}, takeA P T ops mS L fr rs = some (i, o, v) →
    i ∈ rs ∧ ops[i]? = some o ∧ freeA ops o i L 0 ops.toList = true ∧ ((wantedA ops fr o = true ∧ pureA P T mS fr o.op = some v) ∨ (wantedA ops fr o = false ∧ v = nilA))
  | [], i, o, v, h => by simp [takeA] at h
  | j :: rs, i, o, v, h => by
    have rest : takeA P T ops mS L fr rs = some (i, o, v) → i ∈ j :: rs ∧ ops[i]? = some o ∧ freeA ops o i L 0 ops.toList = true ∧ ((wantedA ops fr o = true ∧ pureA P T mS fr o.op = some v) ∨ (wantedA ops fr o = false ∧ v = nilA)) := fun h =>
      let ⟨h1, h2⟩ := take_ok h
      ⟨List.mem_cons_of_mem _ h1, h2⟩
    simp only [takeA] at h
    split at h
    · exact rest h
    · rename_i o' ho
      split at h
      · rename_i hw
        split at h
        · rename_i v' hv
          split at h
          · rename_i hfree; cases h; exact ⟨List.mem_cons_self, ho, hfree, .inl ⟨hw, hv⟩⟩
          · exact rest h
        · exact rest h
      · rename_i hw
        split at h
        · rename_i hfree; cases h; exact ⟨List.mem_cons_self, ho, hfree, .inr ⟨by simpa using hw, rfl⟩⟩
        · exact rest h
theorem same_ok {f : Nat → Option St} : ∀ {l : List Nat} {r : St}, allSame f l = some r → ∀ i ∈ l, f i = some r
  | [], r, h, i, hi => by simp at hi
  | [j], r, h, i, hi => by simp at hi; subst hi; simpa [allSame] using h
  | j :: k :: l, r, h, i, hi => by
    simp only [allSame] at h
    split at h
    · rename_i a b ha hb
      split at h
      · rename_i e
        cases h
        subst e
        rcases List.mem_cons.1 hi with rfl | hi
        · exact ha
        · exact same_ok (l := k :: l) (by simpa only [allSame] using hb) i hi
      · cases h
    · cases h

/-- A panic's post that does not look at the frame. -/
def QOk (Q : Exit → Act → World → Prop) : Prop := ∀ c a d v w, Q (.panic c) (Act.put a d v) w → Q (.panic c) a w

theorem any_ok {call : CallFn} {ops : Array Oper} {mS m0 : Mem} {sS : Nat → Nat} {b0 : Nat} (hT : TabOp P ρ T) (hcall : CallOk P ρ n0 w0 call) (hsel : Region.noSelect ops = true)
    (hS0 : ∀ b x, mS.get b = some x → m0.get b = some x) :
    ∀ (k : Nat) {L : Nat} {listed : Array Bool} {st st' : St}, Lists L listed ops.size → FrWf st.m st.fr → Grows m0 st.m → (∀ b x, mS.get b = some x → st.m.get b = some x) →
      anyA P T call ops (edgesOf ops.toList) mS b0 (k + 1) L st = some st' → Grows st.m st'.m ∧ FrWf st'.m st'.fr ∧
      ∀ s w (Q : Exit → Act → World → Prop), QOk Q → Rel ρ n0 w0 s st.m w → Ext m0 sS s → (∀ b x, m0.get b = some x → x.cs.all (CV.wf m0) = true) →
        (∀ s' w', Ext st.m s s' → Rel ρ n0 w0 s' st'.m w' → Q .normal (act ρ s' st'.fr) w') →
        wpAnyH P .any ops Q (Cells ρ sS mS) k listed (act ρ s st.fr) w := by
  -- S of a world whose memory holds what mS holds
  have cells : ∀ {s : Nat → Nat} {m : Mem} {w : World}, (∀ b x, m0.get b = some x → x.cs.all (CV.wf m0) = true) → (∀ b x, mS.get b = some x → m.get b = some x) → Rel ρ n0 w0 s m w → Ext m0 sS s → Cells ρ sS mS w := by
    intro s m w hwf0 hsub hr he b x hx j c hc
    have h0 := hS0 b x hx
    have hcw : c.wf m0 = true := List.all_eq_true.1 (hwf0 b x h0) c (List.mem_of_getElem? hc)
    have := hr.cells b x (hsub b x hx) j c hc
    rwa [he b (has_of_get h0), γC_ext he hcw] at this
  have back : ∀ {s : Nat → Nat} {w : World}, (∀ b x, m0.get b = some x → x.cs.all (CV.wf m0) = true) → Ext m0 sS s → Cells ρ sS mS w → Cells ρ s mS w := by
    intro s w hwf0 he hc b x hx j c hj
    have h0 := hS0 b x hx
    have hcw : c.wf m0 = true := List.all_eq_true.1 (hwf0 b x h0) c (List.mem_of_getElem? hj)
    have := hc b x hx j c hj
    rwa [← he b (has_of_get h0), ← γC_ext he hcw] at this
  intro k
  induction k with
  | zero =>
    intro L listed st st' hLl hf hg hsub h
    have hready := ready_ok hLl
    have inR : ∀ {i}, i ∈ Region.ready .any ops listed → i < ops.size := fun hi => by simp only [Region.ready, List.mem_filter, List.mem_range] at hi; exact hi.1
    simp only [anyA] at h
    rw [hready] at h
    split at h
    · rename_i hr
      cases h
      exact ⟨Grows.refl, hf, fun s w Q hq hrel he hwf0 hQ => wpAnyH_done hr (hQ s w Ext.refl hrel) _⟩
    · split at h
      · split at h <;> cases h
      · rename_i r rs hr _
        have := same_ok h _ (by rw [‹Region.ready _ _ _ = _›]; exact List.mem_cons_self)
        split at this
        · cases this
        · split at this
          · split at this
            · split at this <;> cases this
            · cases this
          · split at this <;> cases this
  | succ k ih =>
    intro L listed st st' hLl hf hg hsub h
    have hready := ready_ok hLl
    have inR : ∀ {i}, i ∈ Region.ready .any ops listed → i < ops.size := fun hi => by simp only [Region.ready, List.mem_filter, List.mem_range] at hi; exact hi.1
    rw [anyA] at h
    simp only [hready] at h
    split at h
    · rename_i hr
      cases h
      exact ⟨Grows.refl, hf, fun s w Q hq hrel he hwf0 hQ => wpAnyH_done hr (hQ s w Ext.refl hrel) _⟩
    · rename_i r rs hr
      split at h
      · rename_i i o v ht
        obtain ⟨h1, h2, h3, h4⟩ := take_ok ht
        cases hp : putA st o.dst v with
        | none => simp [hp] at h
        | some st1 =>
          simp only [hp] at h
          obtain ⟨f1, m1, p1⟩ := put_ok (ρ := ρ) hp hf
          obtain ⟨g2, f2, k2⟩ := ih (hLl.set (inR ‹_›)) f1 (m1 ▸ hg) (m1 ▸ hsub) h
          rw [m1] at g2 k2
          refine ⟨g2, f2, fun s w Q hq hrel he hwf0 hQ => ?_⟩
          refine wpAnyH_take (v := γ ρ s v) h2 hsel (free_ok hLl h2 h3) (by simpa using h1) (fun c a w hp => hq c _ _ _ w hp) ?_ (cells hwf0 hsub hrel he) ?_
          · rcases h4 with ⟨hw, hv⟩ | ⟨hw, rfl⟩
            · exact .inl ⟨by rw [wanted_ok hf.le]; exact hw, fun w hS => pure_ok hT hrel.glob (back hwf0 he hS) o hv⟩
            · exact .inr ⟨by rw [wanted_ok hf.le]; exact hw, rfl⟩
          · rw [p1]
            exact k2 s w Q hq hrel he hwf0 hQ
      · rename_i ht
        have hall := same_ok h
        have good : ∀ i ∈ Region.ready .any ops listed, Grows st.m st'.m ∧ FrWf st'.m st'.fr ∧ ∀ s w (Q : Exit → Act → World → Prop), QOk Q → Rel ρ n0 w0 s st.m w → Ext m0 sS s → (∀ b x, m0.get b = some x → x.cs.all (CV.wf m0) = true) →
            (∀ s' w', Ext st.m s s' → Rel ρ n0 w0 s' st'.m w' → Q .normal (act ρ s' st'.fr) w') →
            wpOp P ops Q i (fun a' w' => Cells ρ sS mS w' ∧ wpAnyH P .any ops Q (Cells ρ sS mS) k (listed.setIfInBounds i true) a' w') (act ρ s st.fr) w := by
          intro i hi
          have h := hall i hi
          split at h
          · cases h
          · rename_i o ho
            split at h
            · rename_i hw
              cases hs : stepA P T call (b0 + i) st o with
              | none => simp [hs] at h
              | some st1 =>
                simp only [hs] at h
                split at h
                · rename_i hsub1
                  obtain ⟨g1, f1, k1⟩ := step_ok hT hcall hf hs
                  have hsub1' := sub_ok hsub1
                  obtain ⟨g2, f2, k2⟩ := ih (hLl.set (inR ‹_›)) f1 (hg.trans g1) hsub1' h
                  refine ⟨g1.trans g2, f2, fun s w Q hq hrel he hwf0 hQ => ?_⟩
                  unfold wpOp
                  simp only [ho, wanted_ok hf.le, hw, if_true]
                  refine .inl (k1 s w _ Q hrel fun s1 w1 e1 r1 => ?_)
                  have he1 : Ext m0 sS s1 := he.trans hg e1
                  exact ⟨cells hwf0 hsub1' r1 he1, k2 s1 w1 Q hq r1 he1 hwf0 fun s2 w2 e2 r2 => hQ s2 w2 (e1.trans g1 e2) r2⟩
                · cases h
            · rename_i hw
              cases hp : putA st o.dst nilA with
              | none => simp [hp] at h
              | some st1 =>
                simp only [hp] at h
                obtain ⟨f1, m1, p1⟩ := put_ok (ρ := ρ) hp hf
                obtain ⟨g2, f2, k2⟩ := ih (hLl.set (inR ‹_›)) f1 (m1 ▸ hg) (m1 ▸ hsub) h
                rw [m1] at g2 k2
                refine ⟨g2, f2, fun s w Q hq hrel he hwf0 hQ => ?_⟩
                have hw' : wantedA ops st.fr o = false := by simpa using hw
                unfold wpOp
                simp only [ho, wanted_ok hf.le, hw', Bool.false_eq_true, if_false]
                rw [← nil_γ (ρ := ρ) (s := s), p1]
                exact ⟨cells hwf0 hsub hrel he, k2 s w Q hq hrel he hwf0 hQ⟩
        obtain ⟨g, f, _⟩ := good r (by rw [hr]; simp)
        exact ⟨g, f, fun s w Q hq hrel he hwf0 hQ => wpAnyH_all rfl (by rw [hr]; simp) fun i hi => (good i hi).2.2 s w Q hq hrel he hwf0 hQ⟩

/-! ### Code -/
/-- What it is for a piece of code to be run rightly. -/
def Runs (P : Program) (ρ : Nat → Int) (n0 : Nat) (w0 : World) (c : Code) (st : St) (x : XX) (st' : St) : Prop :=
  Grows st.m st'.m ∧ FrWf st'.m st'.fr ∧ ∀ s w (Q : Exit → Act → World → Prop), QOk Q → Rel ρ n0 w0 s st.m w →
    (∀ s' w', Ext st.m s s' → Rel ρ n0 w0 s' st'.m w' → Q x.toExit (act ρ s' st'.fr) w') → c.wp P Q (act ρ s st.fr) w
theorem QOk.then {Q : Exit → Act → World → Prop} (h : QOk Q) (K : Act → World → Prop) : QOk (Exit.then K Q) := fun c a d v w hp => h c a d v w hp
theorem QOk.inBlock {Q : Exit → Act → World → Prop} (h : QOk Q) (id : Nat) : QOk (Exit.inBlock id Q) := fun c a d v w hp => h c a d v w hp
theorem QOk.noGoto {Q : Exit → Act → World → Prop} (h : QOk Q) : QOk (Exit.noGoto Q) := fun c a d v w hp => h c a d v w hp

theorem loop_ok {c : Code} {f : St → Option (XX × St)} (hf : ∀ st x st', FrWf st.m st.fr → f st = some (x, st') → Runs P ρ n0 w0 c st x st') :
    ∀ (n : Nat) {st : St} {x : XX} {st' : St}, FrWf st.m st.fr → loopA f n st = some (x, st') → Grows st.m st'.m ∧ FrWf st'.m st'.fr ∧
      ∀ s w (Q : Exit → Act → World → Prop), QOk Q → Rel ρ n0 w0 s st.m w →
        (∀ s' w', Ext st.m s s' → Rel ρ n0 w0 s' st'.m w' → Q x.toExit (act ρ s' st'.fr) w') → Rounds P c Q n (act ρ s st.fr) w := by
  intro n
  induction n with
  | zero => intro st x st' _ h; simp [loopA] at h
  | succ n ih =>
    intro st x st' hw h
    simp only [loopA] at h
    split at h
    · rename_i st1 h1
      obtain ⟨g1, f1, k1⟩ := hf _ _ _ hw h1
      obtain ⟨g2, f2, k2⟩ := ih f1 h
      refine ⟨g1.trans g2, f2, fun s w Q hq hr hQ => ?_⟩
      exact k1 s w _ (hq.then _) hr fun s1 w1 e1 r1 => k2 s1 w1 Q hq r1 fun s2 w2 e2 r2 => hQ s2 w2 (e1.trans g1 e2) r2
    · rename_i hne
      obtain ⟨g1, f1, k1⟩ := hf _ _ _ hw h
      refine ⟨g1, f1, fun s w Q hq hr hQ => ?_⟩
      refine k1 s w _ (hq.then _) hr fun s1 w1 e1 r1 => ?_
      have := hQ s1 w1 e1 r1
      cases x with
      | nor => exact (hne _ h).elim
      | exit i => exact this
      | ret => exact this

theorem exec_ok {call : CallFn} (hT : TabOp P ρ T) (hcall : CallOk P ρ n0 w0 call) : ∀ (c : Code) {st : St} {x : XX} {st' : St}, FrWf st.m st.fr →
    execA P T call c st = some (x, st') → Runs P ρ n0 w0 c st x st' := by
  intro c
  induction c with
  | skip => intro st x st' hf h; simp only [execA] at h; cases h; exact ⟨Grows.refl, hf, fun s w Q _ hr hQ => wp_skip (hQ s w Ext.refl hr)⟩
  | label l => intro st x st' hf h; simp only [execA] at h; cases h; exact ⟨Grows.refl, hf, fun s w Q _ hr hQ => wp_label (hQ s w Ext.refl hr)⟩
  | exit id => intro st x st' hf h; simp only [execA] at h; cases h; exact ⟨Grows.refl, hf, fun s w Q _ hr hQ => wp_exit (hQ s w Ext.refl hr)⟩
  | ret => intro st x st' hf h; simp only [execA] at h; cases h; exact ⟨Grows.refl, hf, fun s w Q _ hr hQ => wp_ret (hQ s w Ext.refl hr)⟩
  | goto l => intro st x st' hf h; simp [execA] at h
  | refuse l => intro st x st' hf h; simp [execA] at h
  | rangeFunc f ps a b _ _ => intro st x st' hf h; simp [execA] at h
  | region id ops draw =>
    intro st x st' hf h
    cases draw with
    | false =>
      simp only [execA] at h
      cases hl : listA P T call ops ops.toList st with
      | none => simp [hl] at h
      | some st1 =>
        simp [hl] at h
        obtain ⟨rfl, rfl⟩ := h
        obtain ⟨g1, f1, k1⟩ := list_ok hT hcall hf hl
        exact ⟨g1, f1, fun s w Q _ hr hQ => wp_region_list (k1 s w Q hr hQ)⟩
    | true =>
      simp only [execA] at h
      split at h
      · rename_i hc
        simp only [Bool.and_eq_true] at hc
        obtain ⟨hsel, hmix⟩ := hc
        split at h
        · rename_i hsub
          generalize hS : heldA ops st = mS at *
          cases hl : anyA P T call ops (edgesOf ops.toList) mS st.n (ops.size + 1) 0 { st with n := st.n + ops.size } with
          | none => simp [hl] at h
          | some st1 =>
            simp [hl] at h
            obtain ⟨rfl, rfl⟩ := h
            have hsub' := sub_ok hsub
            have key := fun (sS : Nat → Nat) => any_ok (ρ := ρ) (n0 := n0) (w0 := w0) (sS := sS) (m0 := st.m) hT hcall hsel hsub' ops.size (listed := Array.replicate ops.size false) (st := { st with n := st.n + ops.size }) (Lists.zero _) hf Grows.refl hsub' hl
            obtain ⟨g1, f1, _⟩ := key fun _ => 0
            refine ⟨g1, f1, fun s w Q hq hr hQ => ?_⟩
            exact wp_region_held hmix ((key s).2.2 s _ Q hq hr.drew Ext.refl hr.wf hQ)
        · cases h
      · cases h
  | seq a b iha ihb =>
    intro st x st' hf h
    simp only [execA] at h
    split at h
    · rename_i st1 h1
      obtain ⟨g1, f1, k1⟩ := iha hf h1
      obtain ⟨g2, f2, k2⟩ := ihb f1 h
      refine ⟨g1.trans g2, f2, fun s w Q hq hr hQ => wp_seq ?_⟩
      exact k1 s w _ (hq.then _) hr fun s1 w1 e1 r1 => k2 s1 w1 Q hq r1 fun s2 w2 e2 r2 => hQ s2 w2 (e1.trans g1 e2) r2
    · rename_i hne
      obtain ⟨g1, f1, k1⟩ := iha hf h
      refine ⟨g1, f1, fun s w Q hq hr hQ => wp_seq ?_⟩
      refine k1 s w _ (hq.then _) hr fun s1 w1 e1 r1 => ?_
      have := hQ s1 w1 e1 r1
      cases x with
      | nor => exact (hne _ h).elim
      | exit i => exact this
      | ret => exact this
  | cond c a b iha ihb =>
    intro st x st' hf h
    simp only [execA] at h
    split at h
    · rename_i hc
      obtain ⟨g1, f1, k1⟩ := iha hf h
      exact ⟨g1, f1, fun s w Q hq hr hQ => wp_cond_true (evalC_ok (ρ := ρ) (s := s) hr.glob hc) (k1 s w Q hq hr hQ)⟩
    · rename_i hc
      obtain ⟨g1, f1, k1⟩ := ihb hf h
      exact ⟨g1, f1, fun s w Q hq hr hQ => wp_cond_false (evalC_ok (ρ := ρ) (s := s) hr.glob hc) (k1 s w Q hq hr hQ)⟩
    · cases h
  | block id c ih =>
    intro st x st' hf h
    simp only [execA] at h
    split at h
    · rename_i i st1 h1
      obtain ⟨g1, f1, k1⟩ := ih hf h1
      split at h
      · rename_i e
        cases h
        refine ⟨g1, f1, fun s w Q hq hr hQ => wp_block (k1 s w _ (hq.inBlock _) hr fun s1 w1 e1 r1 => ?_)⟩
        simp only [XX.toExit, Exit.inBlock, e, if_true]
        exact hQ s1 w1 e1 r1
      · rename_i e
        cases h
        refine ⟨g1, f1, fun s w Q hq hr hQ => wp_block (k1 s w _ (hq.inBlock _) hr fun s1 w1 e1 r1 => ?_)⟩
        simp only [XX.toExit, Exit.inBlock, e, if_false]
        exact hQ s1 w1 e1 r1
    · rename_i hne
      obtain ⟨g1, f1, k1⟩ := ih hf h
      refine ⟨g1, f1, fun s w Q hq hr hQ => wp_block (k1 s w _ (hq.inBlock _) hr fun s1 w1 e1 r1 => ?_)⟩
      have := hQ s1 w1 e1 r1
      cases x with
      | nor => exact this
      | exit i => exact (hne _ _ h).elim
      | ret => exact this
  | loop c ih =>
    intro st x st' hf h
    simp only [execA] at h
    obtain ⟨g1, f1, k1⟩ := loop_ok (fun st x st' hf h => ih hf h) 1000 hf h
    exact ⟨g1, f1, fun s w Q hq hr hQ => wp_rounds 1000 (k1 s w Q hq hr hQ)⟩
  | scope c ih =>
    intro st x st' hf h
    simp only [execA] at h
    obtain ⟨g1, f1, k1⟩ := ih hf h
    refine ⟨g1, f1, fun s w Q hq hr hQ => wp_scope_straight (k1 s w _ hq.noGoto hr fun s1 w1 e1 r1 => ?_)⟩
    have := hQ s1 w1 e1 r1
    cases x <;> exact this

/-! ### Calls -/
/-- The table of contracts is right. -/
def ConPost (ρ : Nat → Int) (s : Nat → Nat) (n : Nat) (w : World) (v : AV) (new : Option (List CV)) (e : Ending) (w' : World) : Prop :=
  match new with
  | none => e = .returned (γ ρ s v) ∧ Below w.heap.size w w'
  | some cs => ∃ B, w.heap.size ≤ B ∧ B < w'.heap.size ∧ Below w.heap.size w w' ∧ (∀ j c, cs[j]? = some c → w'.cell? ⟨B, j, none⟩ = some (γC ρ s c)) ∧
      ∀ s' : Nat → Nat, s' n = B → e = .returned (γ ρ s' v)
def TabCon (P : Program) (ρ : Nat → Int) (n0 : Nat) (w0 : World) (T : Tab) : Prop :=
  ∀ f args n v new, T.con f args n = some (v, new) → ∀ (s : Nat → Nat) (w : World), Below n0 w0 w → Calls P f (args.map (γ ρ s)).toArray w (ConPost ρ s n w v new)

def resSem (tmps : Array Value) : ResultVar → Sem Value
  | .tmp t => pure (tmps.getD t undef)
  | .cell a t => do loadVar t (← asAddr (tmps.getD a undef))
theorem run_results {st : St} (hg : Gl s) (hC : Cells ρ s st.m w) : ∀ {rs : List ResultVar} {l : List TV}, resultsA P st rs = some l →
    (rs.mapM (resSem (act ρ s st.fr).tmps)).run P w = .ok (l.map (γT ρ s)) w
  | [], l, h => by simp [resultsA] at h; subst h; simp
  | .tmp t :: rs, l, h => by
    simp only [resultsA] at h
    split at h
    · rename_i x r h1 h2
      cases h
      have e : (act ρ s st.fr).tmps.getD t undef = γT ρ s x := evalA_ok hg (x := .tmp t) h1
      simp only [List.mapM_cons, resSem, Sem.run_bind, Sem.run_pure, Result.andThen_ok, e, run_results hg hC h2, List.map_cons]
    · cases h
  | .cell a t :: rs, l, h => by
    simp only [resultsA] at h
    split at h
    · rename_i b o r h1 h2
      cases hl : loadA P st.m t b o with
      | none => simp [hl] at h
      | some x =>
        simp [hl] at h; subst h
        have e : (act ρ s st.fr).tmps.getD a undef = .pointer (some ⟨s b, o, none⟩) := evalA_ok hg (x := .tmp a) h1
        have := run_loadAt' (P := P) hC hl
        simp only [Instr.loadAt, Instr.sureAddr, Sem.run_bind, Sem.run_pure, Result.andThen_ok] at this
        simp only [List.mapM_cons, resSem, Sem.run_bind, Sem.run_pure, Result.andThen_ok, e, asAddr, this, run_results hg hC h2, List.map_cons]
    · cases h
theorem results_ok {fn : Func} {st : St} {l : List TV} (hg : Gl s) (hC : Cells ρ s st.m w) (h : resultsA P st fn.results.toList = some l) :
    (results fn (act ρ s st.fr).tmps).run P w = .ok (γ ρ s (packA l)) w := by
  have h1 := run_results (P := P) hg hC h
  have e : results fn (act ρ s st.fr).tmps = (do let vs ← fn.results.mapM (resSem (act ρ s st.fr).tmps); pure (if h : vs.size = 1 then vs[0] else .tuple vs)) := rfl
  rw [e, Array.mapM_eq_mapM_toList]
  simp only [Sem.run_bind, Sem.run_map, h1, Result.andThen_ok, Sem.run_pure]
  congr 1
  match l with
  | [] => rfl
  | [x] => rfl
  | x :: y :: l => simp [packA, γ]

theorem get_setAll : ∀ (l : List AV) (t : Fr) (k j : Nat), k + l.length ≤ 1024 → j < 1024 → (Fr.setAll t k l).get 10 j = if k ≤ j ∧ j < k + l.length then l.getD (j - k) nilA else t.get 10 j
  | [], t, k, j, _, _ => by simp [Fr.setAll]; omega
  | v :: l, t, k, j, h, hj => by
    simp only [List.length_cons] at h
    rw [Fr.setAll, get_setAll l _ (k + 1) j (by omega) hj, Fr.get_set 10 t k j v (by omega) hj]
    by_cases h1 : j = k
    · subst h1; rw [if_neg (by omega), if_pos rfl, if_pos (by simp)]; simp
    · by_cases h2 : k + 1 ≤ j ∧ j < k + 1 + l.length
      · rw [if_pos h2, if_pos (by simp; omega)]
        rw [show j - k = (j - (k + 1)) + 1 from by omega]; rfl
      · rw [if_neg h2, if_neg (by omega), if_neg (by simp; omega)]
theorem get_of {args : List AV} {n j : Nat} (h : args.length ≤ 1024) (hj : j < 1024) : (Frm.of args n).t.get 10 j = args.getD j nilA := by
  show (Fr.setAll .nil 0 args).get 10 j = _
  rw [get_setAll args _ 0 j (by omega) hj]
  split
  · simp
  · rename_i h; rw [Fr.get_nil, List.getD_eq_getElem?_getD, List.getElem?_eq_none (by omega)]; rfl
theorem of_wf {args : List AV} {n : Nat} (ha : ∀ u ∈ args, u.wf m = true) (h : args.length + (n - args.length) ≤ 1024) : FrWf m (Frm.of args n) := by
  refine ⟨h, fun i hi => ?_⟩
  rw [get_of (by omega) hi, List.getD_eq_getElem?_getD]
  cases hc : args[i]? with
  | none => rfl
  | some v => exact ha v (List.mem_of_getElem? hc)
theorem act_of {args : List AV} {n : Nat} (h : args.length + (n - args.length) ≤ 1024) :
    ({ tmps := (args.map (γ ρ s)).toArray ++ Array.replicate (n - (args.map (γ ρ s)).toArray.size) undef, defers := [] } : Act) = act ρ s (Frm.of args n) := by
  simp only [act, Act.mk.injEq, and_true]
  apply Array.ext'
  apply List.ext_getElem?
  intro i
  simp only [Array.toList_append, Array.toList_replicate, List.size_toArray, List.length_map]
  show (List.map (γ ρ s) args ++ List.replicate (n - args.length) undef)[i]? = (List.map (fun i => γ ρ s ((Frm.of args n).t.get 10 i)) (List.range (args.length + (n - args.length))))[i]?
  by_cases hi : i < args.length + (n - args.length)
  · rw [List.getElem?_map, List.getElem?_range hi, Option.map_some, get_of (by omega) (by omega), List.getD_eq_getElem?_getD]
    by_cases hl : i < args.length
    · rw [List.getElem?_append_left (by simpa using hl)]; simp [hl]
    · rw [List.getElem?_append_right (by simp; omega), List.getElem?_eq_none (l := args) (by omega)]
      rw [List.getElem?_replicate, if_pos (by simp; omega)]; rfl
  · rw [List.getElem?_eq_none (by simp; omega), List.getElem?_eq_none (by simp; omega)]

theorem call_ok (hT : TabOp P ρ T) (hcon : TabCon P ρ n0 w0 T) : ∀ d, CallOk P ρ n0 w0 (callA P T d)
  | 0 => fun f args m n v m' n' h => by simp [callA] at h
  | d + 1 => by
    intro f args m n v m' n' h hargs
    simp only [callA] at h
    split at h
    · rename_i v1 hc
      cases h
      refine ⟨Grows.refl, fun s w hr => ?_⟩
      refine (hcon _ _ _ _ _ hc s w hr.below).mono fun e w' ⟨he, hb⟩ => ⟨s, Ext.refl, he, hr.call hb⟩
    · rename_i v1 cs hc
      split at h
      · cases h
      · rename_i hn
        split at h
        · rename_i hwf
          cases h
          refine ⟨grows_put _ _, fun s w hr => ?_⟩
          refine (hcon _ _ _ _ _ hc s w hr.below).mono fun e w' ⟨B, h1, h2, h3, h4, h5⟩ => ?_
          obtain ⟨s', k1, k2, k3⟩ := hr.put (nm := n) (wr := false) h3 (by simpa using hn) h1 h2 hwf h4 (fun h => by cases h)
          exact ⟨s', k1, h5 s' k2, k3⟩
        · cases h
    · split at h
      · rename_i fn hfn
        split at h
        · rename_i c hb
          split at h
          · rename_i hle
            have hle : args.length + (fn.ntmps - args.length) ≤ 1024 := by simpa using hle
            have hf0 : FrWf m (Frm.of args fn.ntmps) := of_wf hargs hle
            have fin : ∀ {x : XX} {st : St}, execA P T (callA P T d) c ⟨Frm.of args fn.ntmps, m, n⟩ = some (x, st) → (x.toExit = .normal ∨ x.toExit = .ret) →
                (resultsA P st fn.results.toList).map (fun r => (packA r, st.m, st.n)) = some (v, m', n') → Grows m m' ∧
                ∀ s w, Rel ρ n0 w0 s m w → Calls P f (args.map (γ ρ s)).toArray w fun e w' => ∃ s', Ext m s s' ∧ e = .returned (γ ρ s' v) ∧ Rel ρ n0 w0 s' m' w' := by
              intro x st hx hxe hres
              simp only [Option.map_eq_some_iff, Prod.mk.injEq] at hres
              obtain ⟨l, hl, rfl, rfl, rfl⟩ := hres
              obtain ⟨g1, f1, k1⟩ := exec_ok hT (call_ok hT hcon d) c hf0 hx
              refine ⟨g1, fun s w hr => ?_⟩
              refine calls_of_wp hfn hb ?_
              have e : ({ tmps := (args.map (γ ρ s)).toArray ++ Array.replicate (fn.ntmps - (args.map (γ ρ s)).toArray.size) undef, defers := [] } : Act) = act ρ s (Frm.of args fn.ntmps) := act_of hle
              rw [e]
              refine k1 s w _ (fun c a d v w hp => ?_) hr fun s1 w1 e1 r1 => ?_
              · cases d <;> exact hp
              · have hres := results_ok (fn := fn) r1.glob r1.cells hl
                have hbp : bodyPost P fn (fun e w' => ∃ s', Ext m s s' ∧ e = .returned (γ ρ s' (packA l)) ∧ Rel ρ n0 w0 s' st.m w') .ret (act ρ s1 st.fr) w1 :=
                  ⟨rfl, _, hres, s1, e1, rfl, r1⟩
                rcases hxe with hxe | hxe <;> rw [hxe] <;> exact hbp
            split at h
            · rename_i st hx; exact fin hx (.inl rfl) h
            · rename_i st hx; exact fin hx (.inr rfl) h
            · cases h
          · cases h
        · cases h
      · cases h

/-- **A function run over what is known of the memory.** -/
theorem run_okM {m0 : Mem} (hT : TabOp P ρ T) {s : Nat → Nat} {w : World} (hcon : TabCon P ρ w.heap.size w T) {d : Nat} {f : FuncId} {args : List AV} {v : AV} (h : runM P T d m0 f args = some v) (hargs : ∀ u ∈ args, u.wf m0 = true)
    (hr : Rel ρ w.heap.size w s m0 w) :
    Calls P f (args.map (γ ρ s)).toArray w fun e w' => (∃ s', e = .returned (γ ρ s' v)) ∧ Below w.heap.size w w' := by
  unfold runM at h
  simp only [Option.map_eq_some_iff] at h
  obtain ⟨⟨v1, m1, n1⟩, h, rfl⟩ := h
  obtain ⟨_, k⟩ := call_ok (n0 := w.heap.size) (w0 := w) hT hcon d f args m0 0 v1 m1 n1 h hargs
  exact (k s w hr).mono fun e w' ⟨s', _, he, hr'⟩ => ⟨⟨s', he⟩, hr'.below⟩
/-- The names at the start. -/
def s0 (b : Nat) : Nat := if 1000000 ≤ b then b - 1000000 else 0
theorem s0_gl : Gl s0 := fun g => by unfold s0; rw [if_pos (by omega)]; omega
/-- **A function run from nothing.** -/
theorem run_ok (hT : TabOp P ρ T) {w : World} (hcon : TabCon P ρ w.heap.size w T) {d : Nat} {f : FuncId} {args : List AV} {v : AV} (h : runA P T d f args = some v) (hargs : ∀ u ∈ args, u.wf [] = true) :
    Calls P f (args.map (γ ρ s0)).toArray w fun e w' => (∃ s', e = .returned (γ ρ s' v)) ∧ Below w.heap.size w w' :=
  run_okM (m0 := []) hT hcon h hargs ⟨fun b x hx => (nomatch hx), fun b x hx => (nomatch hx), fun b x hx => (nomatch hx), fun b b' x x' hb => (nomatch hb), fun b x hx => (nomatch hx), Below.refl _ _, Nat.le_refl _, s0_gl⟩

end
end Go.Proofs.YtpdaigenffecmaaDoor

namespace Go.Proofs.YtpdaigenffecmaaDoor
open Go Go.RowKit

/-! ### What asks nothing of the memory -/
def pureRun {α : Type} (P : Program) : Sem α → Option α
  | .pure a => some a
  | .program k => pureRun P (k P)
  | .mark _ k => pureRun P k
  | _ => none
theorem pureRun_ok {α : Type} {P : Program} : ∀ {x : Sem α} {a : α}, pureRun P x = some a → ∀ w, x.run P w = .ok a w := by
  intro x
  induction x with
  | pure b => intro a h w; simp only [pureRun] at h; cases h; rfl
  | program k ih => intro a h w; simp only [pureRun] at h; exact ih P h w
  | mark m k ih => intro a h w; simp only [pureRun] at h; exact ih h w
  | _ => intro a h; simp [pureRun] at h

def litC : CV → Option Value
  | .int k (.lit i) => some (.int k i)
  | .bool b => some (.bool b)
  | .nilp => some (.pointer none)
  | .niliface => some .nilIface
  | _ => none
theorem litC_ok {ρ : Nat → Int} {s : Nat → Nat} {c : CV} {v : Value} (h : litC c = some v) : γC ρ s c = v := by
  cases c with
  | int k x => cases x <;> simp [litC] at h; subst h; rfl
  | bool b => simp [litC] at h; subst h; rfl
  | nilp => simp [litC] at h; subst h; rfl
  | niliface => simp [litC] at h; subst h; rfl
  | _ => simp [litC] at h
def litA : AV → Option Value
  | .v (.one c) => litC c
  | _ => none
theorem litA_ok {ρ : Nat → Int} {s : Nat → Nat} {c : AV} {v : Value} (h : litA c = some v) : γ ρ s c = v := by
  unfold litA at h
  split at h
  · exact litC_ok h
  · cases h
def litsA : List AV → Option (List Value)
  | [] => some []
  | v :: l => match litA v, litsA l with
    | some c, some r => some (c :: r)
    | _, _ => none
theorem litsA_ok {ρ : Nat → Int} {s : Nat → Nat} : ∀ {l : List AV} {r : List Value}, litsA l = some r → l.map (γ ρ s) = r
  | [], r, h => by simp [litsA] at h; subst h; rfl
  | v :: l, r, h => by
    simp only [litsA] at h
    split at h
    · rename_i c q h1 h2; cases h; simp [litA_ok h1, litsA_ok h2]
    · cases h
def backA (x : Option Value) : Option AV :=
  match x with
  | some v => (reifyT v).map .v
  | none => none

/-! ### Facts on numbers that are letters -/
structure Facts where
  cmp : List (BinOp × AI × AI × Bool) := []
  ar : List (BinOp × IntKind × AI × IntKind × AI × AI) := []   -- the operation, the first operand's kind and value, the second's, the result
  cv : List (IntKind × AI × AI) := []
  mm : List (Bool × AI × AI × AI) := []   -- (max?, x, y, result)
def cmpI : BinOp → Int → Int → Option Bool
  | .eql, a, b => some (a == b)
  | .neq, a, b => some (a != b)
  | .lss, a, b => some (decide (a < b))
  | .leq, a, b => some (decide (a ≤ b))
  | .gtr, a, b => some (decide (a > b))
  | .geq, a, b => some (decide (a ≥ b))
  | _, _, _ => none
/-- What an operation on two whole numbers answers. -/
def ArOk (op : BinOp) (k : IntKind) (x : Int) (j : IntKind) (y r : Int) : Prop :=
  ∀ (P : Program) (t : TypeId) (w : World), (binOp op t (.int k x) (.int j y)).run P w = .ok (.int k r) w
theorem ar_add {k : IntKind} {x y r : Int} (h : k.wrap (x + y) = r) : ArOk .add k x k y r := by
  intro P t w; rw [← h]; simp [binOp, Op.intArith]
theorem ar_sub {k : IntKind} {x y r : Int} (h : k.wrap (x - y) = r) : ArOk .sub k x k y r := by
  intro P t w; rw [← h]; simp [binOp, Op.intArith]
theorem ar_mul {k : IntKind} {x y r : Int} (h : k.wrap (x * y) = r) : ArOk .mul k x k y r := by
  intro P t w; rw [← h]; simp [binOp, Op.intArith]
structure FactsOk (ρ : Nat → Int) (F : Facts) : Prop where
  cmp : ∀ e ∈ F.cmp, cmpI e.1 (γI ρ e.2.1) (γI ρ e.2.2.1) = some e.2.2.2
  ar : ∀ e ∈ F.ar, ArOk e.1 e.2.1 (γI ρ e.2.2.1) e.2.2.2.1 (γI ρ e.2.2.2.2.1) (γI ρ e.2.2.2.2.2)
  cv : ∀ e ∈ F.cv, e.1.wrap (γI ρ e.2.1) = γI ρ e.2.2
  mm : ∀ e ∈ F.mm, (if e.1 then max (γI ρ e.2.1) (γI ρ e.2.2.1) else min (γI ρ e.2.1) (γI ρ e.2.2.1)) = γI ρ e.2.2.2
def findCmp (op : BinOp) (a b : AI) : List (BinOp × AI × AI × Bool) → Option Bool
  | [] => none
  | (o, x, y, r) :: l => if o = op ∧ x = a ∧ y = b then some r else findCmp op a b l
def findAr (op : BinOp) (k : IntKind) (a : AI) (j : IntKind) (b : AI) : List (BinOp × IntKind × AI × IntKind × AI × AI) → Option AI
  | [] => none
  | (o, k', x, j', y, r) :: l => if o = op ∧ k' = k ∧ x = a ∧ j' = j ∧ y = b then some r else findAr op k a j b l
def findCv (k : IntKind) (a : AI) : List (IntKind × AI × AI) → Option AI
  | [] => none
  | (j, x, r) :: l => if j = k ∧ x = a then some r else findCv k a l
def findMm (q : Bool) (a b : AI) : List (Bool × AI × AI × AI) → Option AI
  | [] => none
  | (j, x, y, r) :: l => if j = q ∧ x = a ∧ y = b then some r else findMm q a b l
theorem findCmp_ok {op : BinOp} {a b : AI} {r : Bool} : ∀ {l : List (BinOp × AI × AI × Bool)}, findCmp op a b l = some r → (op, a, b, r) ∈ l
  | [], h => by simp [findCmp] at h
  | (o, x, y, q) :: l, h => by
    simp only [findCmp] at h
    split at h
    · rename_i e; cases h; obtain ⟨rfl, rfl, rfl⟩ := e; exact List.mem_cons_self
    · exact List.mem_cons_of_mem _ (findCmp_ok h)
theorem findAr_ok {op : BinOp} {k j : IntKind} {a b r : AI} : ∀ {l : List (BinOp × IntKind × AI × IntKind × AI × AI)}, findAr op k a j b l = some r → (op, k, a, j, b, r) ∈ l
  | [], h => by simp [findAr] at h
  | (o, k', x, j', y, q) :: l, h => by
    simp only [findAr] at h
    split at h
    · rename_i e; cases h; obtain ⟨rfl, rfl, rfl, rfl, rfl⟩ := e; exact List.mem_cons_self
    · exact List.mem_cons_of_mem _ (findAr_ok h)
theorem findCv_ok {k : IntKind} {a r : AI} : ∀ {l : List (IntKind × AI × AI)}, findCv k a l = some r → (k, a, r) ∈ l
  | [], h => by simp [findCv] at h
  | (j, x, q) :: l, h => by
    simp only [findCv] at h
    split at h
    · rename_i e; cases h; obtain ⟨rfl, rfl⟩ := e; exact List.mem_cons_self
    · exact List.mem_cons_of_mem _ (findCv_ok h)
theorem findMm_ok {k : Bool} {a b r : AI} : ∀ {l : List (Bool × AI × AI × AI)}, findMm k a b l = some r → (k, a, b, r) ∈ l
  | [], h => by simp [findMm] at h
  | (j, x, y, q) :: l, h => by
    simp only [findMm] at h
    split at h
    · rename_i e; cases h; obtain ⟨rfl, rfl, rfl⟩ := e; exact List.mem_cons_self
    · exact List.mem_cons_of_mem _ (findMm_ok h)
/-- A comparison: of numbers as they are; of one letter with itself; by the facts. -/
def cmpA (F : Facts) (op : BinOp) (a b : AI) : Option Bool :=
  match a, b with
  | .lit i, .lit j => cmpI op i j
  | a, b =>
    if a = b then (match op with
      | .eql | .leq | .geq => some true
      | .neq | .lss | .gtr => some false
      | _ => none)
    else findCmp op a b F.cmp
theorem cmpA_ok {ρ : Nat → Int} {F : Facts} (hF : FactsOk ρ F) {op : BinOp} {a b : AI} {r : Bool} (h : cmpA F op a b = some r) : cmpI op (γI ρ a) (γI ρ b) = some r := by
  unfold cmpA at h
  split at h
  · exact h
  · split at h
    · rename_i e
      subst e
      cases op <;> simp at h <;> subst h <;> simp [cmpI]
    · exact hF.cmp _ (findCmp_ok h)
/-- Equality of rows. -/
def eqRow (F : Facts) : List AI → List AI → Option Bool
  | [], [] => some true
  | a :: l, b :: r => match cmpA F .eql a b with
    | some true => eqRow F l r
    | some false => if l.length = r.length then some false else none
    | none => match eqRow F l r with
      | some false => some false
      | _ => none
  | _, _ => none
theorem eqRow_ok {ρ : Nat → Int} {F : Facts} (hF : FactsOk ρ F) : ∀ {l r : List AI} {q : Bool}, eqRow F l r = some q → decide (l.map (γI ρ) = r.map (γI ρ)) = q
  | [], [], q, h => by simp [eqRow] at h; subst h; rfl
  | a :: l, b :: r, q, h => by
    simp only [eqRow] at h
    split at h
    · rename_i hc
      have := cmpA_ok hF hc
      simp only [cmpI, Option.some.injEq, beq_iff_eq] at this
      rw [← eqRow_ok hF h]
      simp [this]
    · rename_i hc
      have := cmpA_ok hF hc
      simp only [cmpI, Option.some.injEq, beq_eq_false_iff_ne, ne_eq] at this
      split at h
      · cases h; simp [this]
      · cases h
    · split at h
      · rename_i hr
        cases h
        have := eqRow_ok hF hr
        simp only [decide_eq_false_iff_not] at this
        simp [this]
      · cases h
  | [], b :: r, q, h => by simp [eqRow] at h
  | a :: l, [], q, h => by simp [eqRow] at h
/-- The type's values are n numbers of 64 bits, and '==' compares them. -/
def EqOk (P : Program) (t : TypeId) (n : Nat) : Prop :=
  ∀ (xs ys : List Int) (w : World), xs.length = n → ys.length = n →
    (binOp .eql t (.agg (xs.map (Value.int .i64)).toArray) (.agg (ys.map (Value.int .i64)).toArray)).run P w = .ok (.bool (decide (xs = ys))) w ∧
    (binOp .neq t (.agg (xs.map (Value.int .i64)).toArray) (.agg (ys.map (Value.int .i64)).toArray)).run P w = .ok (.bool (!decide (xs = ys))) w ∧
    ∀ (op : BinOp) (x y : Operand), (eqGuard op t x y (.agg (xs.map (Value.int .i64)).toArray) (.agg (ys.map (Value.int .i64)).toArray)).run P w = .ok () w
def rowOf : List CV → Option (List AI)
  | [] => some []
  | .int .i64 a :: l => (rowOf l).map (a :: ·)
  | _ => none
theorem rowOf_ok {ρ : Nat → Int} {s : Nat → Nat} : ∀ {l : List CV} {r : List AI}, rowOf l = some r → l.map (γC ρ s) = (r.map (γI ρ)).map (Value.int .i64)
  | [], r, h => by simp [rowOf] at h; subst h; rfl
  | c :: l, r, h => by
    unfold rowOf at h
    split at h
    · rename_i e; cases e
    · rename_i a l' e
      cases e
      cases hl : rowOf l with
      | none => simp [hl] at h
      | some q => simp [hl] at h; subst h; simp [rowOf_ok hl, γC]
    · cases h
def sizeOfE (t : TypeId) : List (TypeId × Nat) → Option Nat
  | [] => none
  | (u, n) :: l => if Nat.beq u t then some n else sizeOfE t l
theorem sizeOfE_ok {t : TypeId} {n : Nat} : ∀ {l : List (TypeId × Nat)}, sizeOfE t l = some n → (t, n) ∈ l
  | [], h => by simp [sizeOfE] at h
  | (u, k) :: l, h => by
    simp only [sizeOfE] at h
    split at h
    · rename_i e; cases h; rw [Nat.eq_of_beq_eq_true e]; exact List.mem_cons_self
    · exact List.mem_cons_of_mem _ (sizeOfE_ok h)

def mmA (F : Facts) (q : Bool) (a b : AI) : Option AI :=
  match a, b with
  | .lit i, .lit j => some (.lit (if q then max i j else min i j))
  | a, b => if a = b then some a else findMm q a b F.mm
theorem mmA_ok {ρ : Nat → Int} {F : Facts} (hF : FactsOk ρ F) {q : Bool} {a b r : AI} (h : mmA F q a b = some r) :
    (if q then max (γI ρ a) (γI ρ b) else min (γI ρ a) (γI ρ b)) = γI ρ r := by
  unfold mmA at h
  split at h
  · cases h; rfl
  · split at h
    · rename_i e; subst e; cases h; cases q <;> simp
    · exact hF.mm _ (findMm_ok h)
def mmL (F : Facts) (q : Bool) (k : IntKind) (a : AI) : List AV → Option AI
  | [] => some a
  | .v (.one (.int j b)) :: l => if j = k then match mmA F q a b with
      | some c => mmL F q k c l
      | none => none
    else none
  | _ => none

/-- The table of operations. -/
def opT (P : Program) (F : Facts) (E : List (TypeId × Nat)) (o : Op) (vs : List AV) : Option AV :=
  match o, vs with
  | .binOp op t x y _, [.v (.one (.int k a)), .v (.one (.int j b))] =>
    match cmpI op 0 0 with
    | some _ => if k = j then (cmpA F op a b).map fun r => .v (.one (.bool r)) else none
    | none => match a, b with
      | .lit a, .lit b => backA (pureRun P (binOp op t (.int k a) (.int j b)))
      | a, b => (findAr op k a j b F.ar).map fun r => .v (.one (.int k r))
  | .binOp op t _ _ _, [.v (.agg xs), .v (.agg ys)] =>
    match sizeOfE t E, rowOf xs, rowOf ys with
    | some n, some xs, some ys => if xs.length = n ∧ ys.length = n then
        match op with
        | .eql => (eqRow F xs ys).map fun r => .v (.one (.bool r))
        | .neq => (eqRow F xs ys).map fun r => .v (.one (.bool (!r)))
        | _ => none
      else none
    | _, _, _ => none
  | .binOp op t x y _, [.v (.one (.bool a)), .v (.one (.bool b))] => backA (pureRun P (do eqGuard op t x y (.bool a) (.bool b); binOp op t (.bool a) (.bool b)))
  | .unOp u _ _, [a] => match litA a with
    | some a => backA (pureRun P (Op.unary u a))
    | none => match u, a with
      | .neg, .v (.one (.int k a)) => (findAr .sub k (.lit 0) k a F.ar).map fun r => .v (.one (.int k r))
      | _, _ => none
  | .convert s d _, [.v (.one (.int k a))] => match a with
    | .lit a => backA (pureRun P (convert s d (.int k a)))
    | a => match P.underlying s, P.underlying d with
      | some (.int _), some (.int k) => (findCv k a F.cv).map fun r => .v (.one (.int k r))
      | _, _ => none
  | .call { callee := .builtin .len, argTypes, .. }, [.v (.one (.slice _ _ n _))] => match argTypes[0]? with
    | some t => match P.underlying t with
      | some (.slice _) => some (.v (.one (.int .i64 (.lit n))))
      | _ => none
    | none => none
  | .call { callee := .builtin .min, .. }, .v (.one (.int k a)) :: l => (mmL F false k a l).map fun r => .v (.one (.int k r))
  | .call { callee := .builtin .max, .. }, .v (.one (.int k a)) :: l => (mmL F true k a l).map fun r => .v (.one (.int k r))
  | _, _ => none
theorem wordsOf {o : Op} {ev : Operand → Value} {vs : List Value} (h : o.operands.toList.map ev = vs) (l : List Operand) (hl : o.operands = l.toArray) : l.map ev = vs := by
  rw [hl] at h; simpa using h
theorem backA_ok {ρ : Nat → Int} {s : Nat → Nat} {x : Option Value} {v : AV} (h : backA x = some v) : ∃ u, x = some u ∧ γ ρ s v = u := by
  unfold backA at h
  split at h
  · rename_i u
    simp only [Option.map_eq_some_iff] at h
    obtain ⟨t, ht, rfl⟩ := h
    exact ⟨u, rfl, reifyT_ok ht⟩
  · cases h
theorem run_cmpI {P : Program} {op : BinOp} {t : TypeId} {k : IntKind} {a b : Int} {r : Bool} (h : cmpI op a b = some r) (w : World) : (binOp op t (.int k a) (.int k b)).run P w = .ok (.bool r) w := by
  cases op <;> simp [cmpI] at h <;> subst h <;> simp [binOp, Op.intCmp]
theorem run_guard_int {P : Program} {op : BinOp} {t : TypeId} {x y : Operand} {j k : IntKind} {a b : Int} (w : World) : (eqGuard op t x y (.int k a) (.int j b)).run P w = .ok () w := by
  unfold eqGuard
  cases op <;> rfl
theorem mmL_ok {P : Program} {ρ : Nat → Int} {s : Nat → Nat} {F : Facts} (hF : FactsOk ρ F) {q : Bool} {k : IntKind} {w : World} : ∀ {l : List AV} {a r : AI}, mmL F q k a l = some r →
    ((l.map (γ ρ s)).foldlM (if q then Builtin.max2 else Builtin.min2) (.int k (γI ρ a))).run P w = .ok (.int k (γI ρ r)) w
  | [], a, r, h => by simp [mmL] at h; subst h; simp
  | x :: l, a, r, h => by
    unfold mmL at h
    split at h
    · rename_i e; cases e
    · rename_i j b l' e
      cases e
      split at h
      · rename_i e; cases e
        split at h
        · rename_i c hc
          have h1 := mmA_ok hF hc
          have h2 := mmL_ok (P := P) (s := s) (w := w) hF h
          simp only [List.map_cons, List.foldlM_cons, Sem.run_bind]
          have : ((if q then Builtin.max2 else Builtin.min2) (.int k (γI ρ a)) (γ ρ s (.v (.one (.int k b))))).run P w = .ok (.int k (γI ρ c)) w := by
            cases q
            · simp only [Bool.false_eq_true, if_false] at h1 ⊢
              show (Builtin.min2 (.int k (γI ρ a)) (.int k (γI ρ b))).run P w = _
              simp only [Builtin.min2, Sem.run_pure, ← h1]
              congr 2
              split <;> omega
            · simp only [if_true] at h1 ⊢
              show (Builtin.max2 (.int k (γI ρ a)) (.int k (γI ρ b))).run P w = _
              simp only [Builtin.max2, Sem.run_pure, ← h1]
              congr 2
              split <;> omega
          rw [this]
          exact h2
        · cases h
      · cases h
    · cases h

theorem opT_ok {P : Program} {ρ : Nat → Int} {F : Facts} {E : List (TypeId × Nat)} (hF : FactsOk ρ F) (hE : ∀ e ∈ E, EqOk P e.1 e.2) (con : FuncId → List AV → Nat → Option (AV × Option (List CV))) :
    TabOp P ρ ⟨opT P F E, con⟩ := by
  intro o vs v h s ev hev x w hx
  obtain ⟨dst, op, ty, pos, aft, gd⟩ := x
  simp only at hx
  subst hx
  simp only at h
  unfold opT at h
  split at h
  · -- numbers
    rename_i op t x y yt k a j b
    have h2 := wordsOf hev [x, y] rfl
    simp only [List.map_cons, List.map_nil, List.cons.injEq, and_true] at h2
    obtain ⟨hx, hy⟩ := h2
    have hx' : ev x = .int k (γI ρ a) := hx
    have hy' : ev y = .int j (γI ρ b) := hy
    split at h
    · split at h
      · rename_i e; subst e
        simp only [Option.map_eq_some_iff] at h
        obtain ⟨r, hr, rfl⟩ := h
        simp only [execOp, Sem.run_bind, hx', hy', run_guard_int, Result.andThen_ok, run_cmpI (cmpA_ok hF hr), Sem.run_pure]
        rfl
      · cases h
    · split at h
      · rename_i a b
        obtain ⟨u, hu, hv⟩ := backA_ok (ρ := ρ) (s := s) h
        simp only [execOp, Sem.run_bind, hx', hy', run_guard_int, Result.andThen_ok, γI, pureRun_ok hu, Sem.run_pure, hv]
      · simp only [Option.map_eq_some_iff] at h
        obtain ⟨r, hr, rfl⟩ := h
        have := hF.ar _ (findAr_ok hr) P t w
        simp only at this
        simp only [execOp, Sem.run_bind, hx', hy', run_guard_int, Result.andThen_ok, this, Sem.run_pure]
        rfl
  · -- rows
    rename_i op t x y yt xs ys
    have h2 := wordsOf hev [x, y] rfl
    simp only [List.map_cons, List.map_nil, List.cons.injEq, and_true] at h2
    obtain ⟨hx, hy⟩ := h2
    have hx' : ev x = .agg (xs.map (γC ρ s)).toArray := hx
    have hy' : ev y = .agg (ys.map (γC ρ s)).toArray := hy
    split at h
    · rename_i n xs' ys' hn hxs hys
      split at h
      · rename_i hl
        rw [rowOf_ok hxs] at hx'
        rw [rowOf_ok hys] at hy'
        obtain ⟨e1, e2, e3⟩ := hE _ (sizeOfE_ok hn) (xs'.map (γI ρ)) (ys'.map (γI ρ)) w (by simp [hl.1]) (by simp [hl.2])
        split at h
        · simp only [Option.map_eq_some_iff] at h
          obtain ⟨r, hr, rfl⟩ := h
          simp only [execOp, Sem.run_bind, hx', hy', e3, Result.andThen_ok, e1, Sem.run_pure, eqRow_ok hF hr]
          rfl
        · simp only [Option.map_eq_some_iff] at h
          obtain ⟨r, hr, rfl⟩ := h
          simp only [execOp, Sem.run_bind, hx', hy', e3, Result.andThen_ok, e2, Sem.run_pure, eqRow_ok hF hr]
          rfl
        · cases h
      · cases h
    · cases h
  · -- bools
    rename_i op t x y yt a b
    have h2 := wordsOf hev [x, y] rfl
    simp only [List.map_cons, List.map_nil, List.cons.injEq, and_true] at h2
    obtain ⟨hx, hy⟩ := h2
    have hx' : ev x = .bool a := hx
    have hy' : ev y = .bool b := hy
    obtain ⟨u, hu, hv⟩ := backA_ok (ρ := ρ) (s := s) h
    have := pureRun_ok hu w
    simp only [execOp, hx', hy']
    rw [Sem.run_bind, this, hv]; rfl
  · -- one operand
    rename_i u t x a
    have h2 := wordsOf hev [x] rfl
    simp only [List.map_cons, List.map_nil, List.cons.injEq, and_true] at h2
    split at h
    · rename_i a' ha
      obtain ⟨u', hu, hv⟩ := backA_ok (ρ := ρ) (s := s) h
      have := pureRun_ok hu w
      rw [litA_ok ha] at h2
      simp only [execOp, h2, Sem.run_bind, this, hv]; rfl
    · split at h
      · rename_i k a _
        simp only [Option.map_eq_some_iff] at h
        obtain ⟨r, hr, rfl⟩ := h
        have e : ev x = .int k (γI ρ a) := h2
        have := hF.ar _ (findAr_ok hr) P t w
        have e2 : (Op.unary .neg (.int k (γI ρ a)) : Sem Value) = binOp .sub t (.int k (γI ρ (.lit 0))) (.int k (γI ρ a)) := by
          simp [Op.unary, binOp, γI]
        simp only at this
        simp only [execOp, e, Sem.run_bind, e2, this]; rfl
      · cases h
  · -- conversions
    rename_i t d x k a
    have h2 := wordsOf hev [x] rfl
    simp only [List.map_cons, List.map_nil, List.cons.injEq, and_true] at h2
    have hx' : ev x = .int k (γI ρ a) := h2
    split at h
    · rename_i a
      obtain ⟨u', hu, hv⟩ := backA_ok (ρ := ρ) (s := s) h
      have := pureRun_ok hu w
      simp only [execOp, hx', γI, Sem.run_bind, this, hv]; rfl
    · split at h
      · rename_i k1 k2 hu1 hu2
        simp only [Option.map_eq_some_iff] at h
        obtain ⟨r, hr, rfl⟩ := h
        have := hF.cv _ (findCv_ok hr)
        simp only [execOp, hx', convert, Sem.run_bind, run_und hu1, run_und hu2, Result.andThen_ok, Conv.intToInt, Sem.run_pure, this]
        rfl
      · cases h
  · -- len
    rename_i args argTypes b off n cap
    have h2 : args.toList.map ev = [.slice (some ⟨s b, off, none⟩) n cap] := by
      have := hev
      simp only [Op.operands, Call.operands] at this
      simpa [γ, γT, γC] using this
    split at h
    · rename_i t ht
      split at h
      · rename_i e hu
        cases h
        have ha : args.map ev = #[.slice (some ⟨s b, off, none⟩) n cap] := Array.ext' (by rw [Array.toList_map, h2])
        simp only [execOp, resolve, ha, Sem.run_bind, Sem.run_pure, Result.andThen_ok, invoke, builtin, Builtin.len_, ht]
        simp [run_und hu, goInt, γ, γT, γC, γI]
      · cases h
    · cases h
  · -- min
    rename_i args argTypes k a l
    have h2 : args.toList.map ev = .int k (γI ρ a) :: l.map (γ ρ s) := by
      have := hev
      simp only [Op.operands, Call.operands] at this
      simpa [γ, γT, γC] using this
    simp only [Option.map_eq_some_iff] at h
    obtain ⟨r, hr, rfl⟩ := h
    have ha : args.map ev = (.int k (γI ρ a) :: l.map (γ ρ s)).toArray := Array.ext' (by rw [Array.toList_map, h2])
    have hm := mmL_ok (P := P) (s := s) (w := w) hF hr
    simp only [Bool.false_eq_true, if_false] at hm
    simp only [execOp, resolve, ha, Sem.run_bind, Sem.run_pure, Result.andThen_ok, invoke, builtin, Builtin.min_, hm]
    rfl
  · -- max
    rename_i args argTypes k a l
    have h2 : args.toList.map ev = .int k (γI ρ a) :: l.map (γ ρ s) := by
      have := hev
      simp only [Op.operands, Call.operands] at this
      simpa [γ, γT, γC] using this
    simp only [Option.map_eq_some_iff] at h
    obtain ⟨r, hr, rfl⟩ := h
    have ha : args.map ev = (.int k (γI ρ a) :: l.map (γ ρ s)).toArray := Array.ext' (by rw [Array.toList_map, h2])
    have hm := mmL_ok (P := P) (s := s) (w := w) hF hr
    simp only [if_true] at hm
    simp only [execOp, resolve, ha, Sem.run_bind, Sem.run_pure, Result.andThen_ok, invoke, builtin, Builtin.max_, hm]
    rfl
  · cases h

/-! ### Contracts by a list -/
structure Ent where
  f : FuncId
  args : List AV
  res : AV
/-- A contract that may lean on what lay below n0 at the start. -/
def EntOkB (P : Program) (ρ : Nat → Int) (n0 : Nat) (w0 : World) (e : Ent) : Prop :=
  ∀ (s : Nat → Nat) (w : World), Below n0 w0 w → Calls P e.f (e.args.map (γ ρ s)).toArray w fun x w' => x = .returned (γ ρ s e.res) ∧ Below w.heap.size w w'
def EntOk (P : Program) (ρ : Nat → Int) (e : Ent) : Prop :=
  ∀ (s : Nat → Nat) (w : World), Calls P e.f (e.args.map (γ ρ s)).toArray w fun x w' => x = .returned (γ ρ s e.res) ∧ Below w.heap.size w w'
def conL : List Ent → FuncId → List AV → Option AV
  | [], _, _ => none
  | e :: l, f, args => if Nat.beq e.f f then (if e.args = args then some e.res else conL l f args) else conL l f args
theorem conL_ok {P : Program} {ρ : Nat → Int} {n0 : Nat} {w0 : World} : ∀ {l : List Ent}, (∀ e ∈ l, EntOkB P ρ n0 w0 e) → ∀ {f : FuncId} {args : List AV} {v : AV}, conL l f args = some v → EntOkB P ρ n0 w0 ⟨f, args, v⟩
  | [], _, f, args, v, h => by simp [conL] at h
  | e :: l, hl, f, args, v, h => by
    simp only [conL] at h
    have rest : conL l f args = some v → EntOkB P ρ n0 w0 ⟨f, args, v⟩ := conL_ok (l := l) fun e he => hl e (List.mem_cons_of_mem _ he)
    split at h
    · rename_i hf
      split at h
      · rename_i ha
        cases h
        have := hl e List.mem_cons_self
        obtain ⟨f', args', v'⟩ := e
        simp only at hf ha
        subst ha
        rw [Nat.eq_of_beq_eq_true hf] at this
        exact this
      · exact rest h
    · exact rest h
/-- A contract that makes one block that stays: its cells. -/
structure EntN where
  f : FuncId
  args : List AV
  res : Nat → AV
  cs : List CV
def EntNOk (P : Program) (ρ : Nat → Int) (e : EntN) : Prop :=
  ∀ (s : Nat → Nat) (w : World) (n : Nat), Calls P e.f (e.args.map (γ ρ s)).toArray w (ConPost ρ s n w (e.res n) (some e.cs))
def conN : List EntN → FuncId → List AV → Nat → Option (AV × Option (List CV))
  | [], _, _, _ => none
  | e :: l, f, args, n => if Nat.beq e.f f then (if e.args = args then some (e.res n, some e.cs) else conN l f args n) else conN l f args n
def conT (L : List Ent) (N : List EntN) (f : FuncId) (args : List AV) (n : Nat) : Option (AV × Option (List CV)) :=
  match conL L f args with
  | some v => some (v, none)
  | none => conN N f args n
theorem conT_ok {P : Program} {ρ : Nat → Int} {n0 : Nat} {w0 : World} {L : List Ent} {N : List EntN} (hL : ∀ e ∈ L, EntOkB P ρ n0 w0 e) (hN : ∀ e ∈ N, EntNOk P ρ e) (op : Op → List AV → Option AV) : TabCon P ρ n0 w0 ⟨op, conT L N⟩ := by
  intro f args n v new h s w hb
  simp only [conT] at h
  split at h
  · rename_i u hu
    cases h
    exact conL_ok hL hu s w hb
  · revert h
    induction N with
    | nil => intro h; simp [conN] at h
    | cons e N ih =>
      intro h
      simp only [conN] at h
      have rest := ih fun e he => hN e (List.mem_cons_of_mem _ he)
      split at h
      · rename_i hf
        split at h
        · rename_i ha
          cases h
          have := hN e List.mem_cons_self s w n
          rw [Nat.eq_of_beq_eq_true hf, ha] at this
          exact this
        · exact rest h
      · exact rest h

/-- The table from lists. -/
def tab (P : Program) (F : Facts) (E : List (TypeId × Nat)) (L : List Ent) (N : List EntN) : Tab := ⟨opT P F E, conT L N⟩
/-- **A function, run over lists of facts and contracts.** -/
theorem calls_runM {P : Program} {ρ : Nat → Int} {F : Facts} {E : List (TypeId × Nat)} {L : List Ent} {N : List EntN} {d : Nat} {m0 : Mem} {f : FuncId} {args : List AV} {v : AV} {s : Nat → Nat} {w : World}
    (h : runM P (tab P F E L N) d m0 f args = some v) (hF : FactsOk ρ F) (hE : ∀ e ∈ E, EqOk P e.1 e.2) (hL : ∀ e ∈ L, EntOkB P ρ w.heap.size w e) (hN : ∀ e ∈ N, EntNOk P ρ e) (hargs : args.all (AV.wf m0) = true) (hr : Rel ρ w.heap.size w s m0 w) :
    Calls P f (args.map (γ ρ s)).toArray w fun e w' => (∃ s', e = .returned (γ ρ s' v)) ∧ Below w.heap.size w w' :=
  run_okM (opT_ok hF hE _) (conT_ok hL hN _) h (fun u hu => List.all_eq_true.1 hargs u hu) hr
theorem calls_run {P : Program} {ρ : Nat → Int} {F : Facts} {E : List (TypeId × Nat)} {L : List Ent} {N : List EntN} {d : Nat} {f : FuncId} {args : List AV} {v : AV}
    (h : runA P (tab P F E L N) d f args = some v) (hF : FactsOk ρ F) (hE : ∀ e ∈ E, EqOk P e.1 e.2) (hL : ∀ e ∈ L, EntOk P ρ e) (hN : ∀ e ∈ N, EntNOk P ρ e) (hargs : args.all (AV.wf []) = true) (w : World) :
    Calls P f (args.map (γ ρ s0)).toArray w fun e w' => (∃ s', e = .returned (γ ρ s' v)) ∧ Below w.heap.size w w' :=
  run_ok (opT_ok hF hE _) (conT_ok (fun e he s w _ => hL e he s w) hN _) h (fun u hu => List.all_eq_true.1 hargs u hu)

end Go.Proofs.YtpdaigenffecmaaDoor
