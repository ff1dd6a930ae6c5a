/-
  The executor is right: regions that draw their order, code, calls.
-/
import Derived.Test.YtpdaigenffecmaaM38
set_option linter.all false
namespace Go.Proofs.Ytpdaigenffecmaa
open Go Go.RowKit

section
variable {P : Program} {ρ : Nat → Int} {n0 : Nat} {w0 : World} {s s' : Nat → Nat} {m m' : Mem} {w w' : World} {fr : Frm} {T : Tab}

theorem sub_ok : ∀ {a : Mem}, subM a m = true → ∀ b x, a.get b = some x → m.get b = some x
  | [], _, b, x, h => by simp [Mem.get] at h
  | y :: a, hs, b, x, h => by
    simp only [subM, List.all_cons, Bool.and_eq_true] at hs
    simp only [Mem.get] at h
    split at h
    · rename_i e
      cases h
      have e' := Nat.eq_of_beq_eq_true e
      have h1 := hs.1
      rw [e'] at h1
      cases hm : Mem.get m b with
      | none => simp [hm] at h1
      | some z => simp [hm] at h1; rw [h1]
    · exact sub_ok (a := a) hs.2 b x h

/-! ### Bits for what is listed -/
theorem bitA_eq (L i : Nat) : bitA L i = L.testBit i := by
  have h : bitA L i = ((L >>> i) &&& 1 == 1) := by
    unfold bitA
    rw [Bool.eq_iff_iff]; simp only [beq_true', beq_iff_eq]; rfl
  rw [h, Nat.testBit]
  rw [Nat.and_comm]
  have : 1 &&& (L >>> i) = 0 ∨ 1 &&& (L >>> i) = 1 := by
    rw [Nat.one_and_eq_mod_two]; omega
  rcases this with h | h <;> rw [h] <;> rfl
structure Lists (L : Nat) (listed : Array Bool) (n : Nat) : Prop where
  size : listed.size = n
  at' : ∀ j (h : j < listed.size), listed[j] = bitA L j
  out : ∀ j, n ≤ j → bitA L j = false
theorem Lists.getT {L n : Nat} {listed : Array Bool} (h : Lists L listed n) {j : Nat} (hj : j < n) : listed.getD j true = bitA L j := by
  rw [Array.getD_eq_getD_getElem?, Array.getElem?_eq_getElem (by rw [h.size]; exact hj)]
  exact h.at' j _
theorem Lists.getF {L n : Nat} {listed : Array Bool} (h : Lists L listed n) (j : Nat) : listed.getD j false = bitA L j := by
  rw [Array.getD_eq_getD_getElem?]
  by_cases hj : j < n
  · rw [Array.getElem?_eq_getElem (by rw [h.size]; exact hj)]; exact h.at' j _
  · rw [Array.getElem?_eq_none (by rw [h.size]; omega), h.out j (by omega)]; rfl
theorem Lists.zero (n : Nat) : Lists 0 (Array.replicate n false) n := ⟨by simp, fun j h => by simp [bitA_eq], fun j _ => by simp [bitA_eq]⟩
theorem Lists.set {L n : Nat} {listed : Array Bool} (h : Lists L listed n) {i : Nat} (hi : i < n) : Lists (Nat.lor L (Nat.shiftLeft 1 i)) (listed.setIfInBounds i true) n := by
  have e : ∀ j, bitA (Nat.lor L (Nat.shiftLeft 1 i)) j = (bitA L j || decide (i = j)) := by
    intro j
    rw [bitA_eq, bitA_eq]
    show (L ||| (1 <<< i)).testBit j = _
    rw [Nat.testBit_or, Nat.one_shiftLeft, Nat.testBit_two_pow]
  refine ⟨by simp [h.size], fun j hj => ?_, fun j hj => ?_⟩
  · have hj' : j < listed.size := by simpa using hj
    rw [e, Array.getElem_setIfInBounds hj']
    split
    · rename_i e'; subst e'; simp
    · rename_i e'; rw [h.at']; simp [e']
  · rw [e, h.out j hj]; simp; omega
theorem allBits_eq (L : Nat) : ∀ l : List Nat, allBits L l = l.all (bitA L)
  | [] => rfl
  | i :: l => by simp only [allBits, List.all_cons, allBits_eq L l]; cases bitA L i <;> simp
theorem edges_ok {L n : Nat} {listed : Array Bool} (h : Lists L listed n) : ∀ l : List Edge, allBits L (edgesA l) = l.all fun e => !Region.binds .any e || listed.getD e.on false
  | [] => rfl
  | e :: l => by
    simp only [edgesA, List.all_cons, h.getF]
    split
    · rename_i hb; simp only [allBits_eq, List.all_cons, hb, Bool.not_true, Bool.false_or]; rw [← allBits_eq, edges_ok h l]; simp only [h.getF]
    · rename_i hb; simp only [Bool.not_eq_true] at hb; simp only [hb, Bool.not_false, Bool.true_or, Bool.true_and]; rw [edges_ok h l]; simp only [h.getF]
theorem ready_ok {L : Nat} {listed : Array Bool} {ops : Array Oper} (h : Lists L listed ops.size) : readyA L 0 (edgesOf ops.toList) = Region.ready .any ops listed := by
  have key : ∀ (l : List Oper) (k : Nat), (∀ j, l[j]? = ops[k + j]?) → k + l.length = ops.size → readyA L k (edgesOf l) =
      (List.range' k l.length).filter fun i => !listed.getD i true && ((ops[i]?).map (·.after.all fun e => !Region.binds .any e || listed.getD e.on false)).getD false := by
    intro l
    induction l with
    | nil => intro k _ _; rfl
    | cons o l ih =>
      intro k hk hl
      simp only [List.length_cons] at hl
      have h0 : ops[k]? = some o := by simpa using (hk 0).symm
      have ih' := ih (k + 1) (fun j => by have := hk (j + 1); simpa [Nat.add_assoc, Nat.add_comm 1 j] using this) (by omega)
      have e1 : listed.getD k true = bitA L k := h.getT (by omega)
      have e2 : allBits L (edgesA o.after.toList) = (o.after.all fun e => !Region.binds .any e || listed.getD e.on false) := by rw [edges_ok h]; simp
      simp only [edgesOf, List.map_cons, readyA, List.length_cons, List.range'_succ, List.filter_cons, h0, Option.map_some, Option.getD_some, e1, ← e2]
      rw [show readyA L (k + 1) (List.map (fun o => edgesA o.after.toList) l) = readyA L (k + 1) (edgesOf l) from rfl, ih']
      cases bitA L k <;> cases allBits L (edgesA o.after.toList) <;> simp
  unfold Region.ready
  rw [key ops.toList 0 (by simp) (by simp), List.range_eq_range']
  simp
theorem free_ok {L : Nat} {listed : Array Bool} {ops : Array Oper} (h : Lists L listed ops.size) {oi : Oper} {i : Nat} (hi : ops[i]? = some oi) (hf : freeA ops oi i L 0 ops.toList = true) :
    Region.free .any ops listed i = true := by
  have key : ∀ (l : List Oper) (k : Nat), (∀ j, l[j]? = ops[k + j]?) → freeA ops oi i L k l = true → ∀ j oj, k ≤ j → j < k + l.length → ops[j]? = some oj →
      (j == i || bitA L j || oj.after.any (fun e => Region.binds .any e && e.on == i) || oi.apart ops oj) = true := by
    intro l
    induction l with
    | nil => intro k _ _ j oj h1 h2; simp at h2; omega
    | cons o l ih =>
      intro k hk hfr j oj h1 h2 hj
      simp only [freeA, Bool.and_eq_true] at hfr
      by_cases e : j = k
      · subst e
        have h0 : ops[j]? = some o := by simpa using (hk 0).symm
        rw [hj] at h0; cases h0
        have := hfr.1
        have eb : Nat.beq j i = (j == i) := by rw [Bool.eq_iff_iff]; simp
        rwa [eb] at this
      · exact ih (k + 1) (fun j => by have := hk (j + 1); simpa [Nat.add_assoc, Nat.add_comm 1 j] using this) hfr.2 j oj (by omega) (by simp at h2; omega) hj
  unfold Region.free
  simp only [hi, List.all_eq_true, List.mem_range]
  intro j hj
  have hjs : ops[j]? = some ops[j] := Array.getElem?_eq_getElem hj
  have := key ops.toList 0 (by simp) hf j _ (by omega) (by simpa using hj) hjs
  rw [h.getT hj, hjs]
  simpa [Bool.or_assoc] using this

theorem take_ok {ops : Array Oper} {mS : Mem} {L : Nat} : ∀ {rs : List Nat} {i : Nat} {o : Oper} {v : AV}, takeA P T ops mS L fr rs = some (i, o, v) →
    i ∈ rs ∧ ops[i]? = some o ∧ freeA ops o i L 0 ops.toList = true ∧ sureA ops fr o = true ∧ ((wantedA ops fr o = true ∧ pureA P T mS fr o.op = some v) ∨ (wantedA ops fr o = false ∧ v = nilA))
  | [], i, o, v, h => by simp [takeA] at h
  | j :: rs, i, o, v, h => by
    have rest : takeA P T ops mS L fr rs = some (i, o, v) → i ∈ j :: rs ∧ ops[i]? = some o ∧ freeA ops o i L 0 ops.toList = true ∧ sureA ops fr o = true ∧ ((wantedA ops fr o = true ∧ pureA P T mS fr o.op = some v) ∨ (wantedA ops fr o = false ∧ v = nilA)) := fun h =>
      let ⟨h1, h2⟩ := take_ok h
      ⟨List.mem_cons_of_mem _ h1, h2⟩
    simp only [takeA] at h
    split at h
    · exact rest h
    · rename_i o' ho
      split at h
      · exact rest h
      rename_i hsu
      replace hsu : sureA ops fr o' = true := by simpa using hsu
      split at h
      · rename_i hw
        split at h
        · rename_i v' hv
          split at h
          · rename_i hfree; cases h; exact ⟨List.mem_cons_self, ho, hfree, hsu, .inl ⟨hw, hv⟩⟩
          · exact rest h
        · exact rest h
      · rename_i hw
        split at h
        · rename_i hfree; cases h; exact ⟨List.mem_cons_self, ho, hfree, hsu, .inr ⟨by simpa using hw, rfl⟩⟩
        · exact rest h
theorem same_ok {f : Nat → Option St} : ∀ {l : List Nat} {r : St}, allSame f l = some r → ∀ i ∈ l, f i = some r
  | [], r, h, i, hi => by simp at hi
  | [j], r, h, i, hi => by simp at hi; subst hi; simpa [allSame] using h
  | j :: k :: l, r, h, i, hi => by
    simp only [allSame] at h
    split at h
    · rename_i a b ha hb
      split at h
      · rename_i e
        cases h
        subst e
        rcases List.mem_cons.1 hi with rfl | hi
        · exact ha
        · exact same_ok (l := k :: l) (by simpa only [allSame] using hb) i hi
      · cases h
    · cases h

/-- A panic's post that does not look at the frame. -/
def QOk (Q : Exit → Act → World → Prop) : Prop := ∀ c a d v w, Q (.panic c) (Act.put a d v) w → Q (.panic c) a w

theorem any_ok {call : CallFn} {ops : Array Oper} {mS m0 : Mem} {sS : Nat → Nat} {b0 : Nat} (hT : TabOp P ρ T) (hcall : CallOk P ρ n0 w0 call) (hsel : Region.noSelect ops = true)
    (hS0 : ∀ b x, mS.get b = some x → m0.get b = some x) :
    ∀ (k : Nat) {L : Nat} {listed : Array Bool} {st st' : St}, Lists L listed ops.size → FrWf st.m st.fr → Grows m0 st.m → (∀ b x, mS.get b = some x → st.m.get b = some x) →
      anyA P T call ops (edgesOf ops.toList) mS b0 (k + 1) L st = some st' → Grows st.m st'.m ∧ FrWf st'.m st'.fr ∧
      ∀ s w (Q : Exit → Act → World → Prop), QOk Q → Rel ρ n0 w0 s st.m w → Ext m0 sS s → (∀ b x, m0.get b = some x → x.cs.all (CV.wf m0) = true) →
        (∀ s' w', Ext st.m s s' → Rel ρ n0 w0 s' st'.m w' → Q .normal (act ρ s' st'.fr) w') →
        wpAnyH P .any ops Q (Cells ρ sS mS) k listed (act ρ s st.fr) w := by
  -- S of a world whose memory holds what mS holds
  have cells : ∀ {s : Nat → Nat} {m : Mem} {w : World}, (∀ b x, m0.get b = some x → x.cs.all (CV.wf m0) = true) → (∀ b x, mS.get b = some x → m.get b = some x) → Rel ρ n0 w0 s m w → Ext m0 sS s → Cells ρ sS mS w := by
    intro s m w hwf0 hsub hr he b x hx j c hc
    have h0 := hS0 b x hx
    have hcw : c.wf m0 = true := List.all_eq_true.1 (hwf0 b x h0) c (List.mem_of_getElem? hc)
    have := hr.cells b x (hsub b x hx) j c hc
    rwa [he b (has_of_get h0), γC_ext he hcw] at this
  have back : ∀ {s : Nat → Nat} {w : World}, (∀ b x, m0.get b = some x → x.cs.all (CV.wf m0) = true) → Ext m0 sS s → Cells ρ sS mS w → Cells ρ s mS w := by
    intro s w hwf0 he hc b x hx j c hj
    have h0 := hS0 b x hx
    have hcw : c.wf m0 = true := List.all_eq_true.1 (hwf0 b x h0) c (List.mem_of_getElem? hj)
    have := hc b x hx j c hj
    rwa [← he b (has_of_get h0), ← γC_ext he hcw] at this
  intro k
  induction k with
  | zero =>
    intro L listed st st' hLl hf hg hsub h
    have hready := ready_ok hLl
    have inR : ∀ {i}, i ∈ Region.ready .any ops listed → i < ops.size := fun hi => by simp only [Region.ready, List.mem_filter, List.mem_range] at hi; exact hi.1
    simp only [anyA] at h
    rw [hready] at h
    split at h
    · rename_i hr
      cases h
      exact ⟨Grows.refl, hf, fun s w Q hq hrel he hwf0 hQ => wpAnyH_done hr (hQ s w Ext.refl hrel) _⟩
    · split at h
      · split at h <;> cases h
      · rename_i r rs hr _
        have := same_ok h _ (by rw [‹Region.ready _ _ _ = _›]; exact List.mem_cons_self)
        split at this
        · cases this
        · split at this
          · cases this
          split at this
          · split at this
            · split at this <;> cases this
            · cases this
          · split at this <;> cases this
  | succ k ih =>
    intro L listed st st' hLl hf hg hsub h
    have hready := ready_ok hLl
    have inR : ∀ {i}, i ∈ Region.ready .any ops listed → i < ops.size := fun hi => by simp only [Region.ready, List.mem_filter, List.mem_range] at hi; exact hi.1
    rw [anyA] at h
    simp only [hready] at h
    split at h
    · rename_i hr
      cases h
      exact ⟨Grows.refl, hf, fun s w Q hq hrel he hwf0 hQ => wpAnyH_done hr (hQ s w Ext.refl hrel) _⟩
    · rename_i r rs hr
      split at h
      · rename_i i o v ht
        obtain ⟨h1, h2, h3, hsu, h4⟩ := take_ok ht
        cases hp : putA st o.dst v with
        | none => simp [hp] at h
        | some st1 =>
          simp only [hp] at h
          obtain ⟨f1, m1, p1⟩ := put_ok (ρ := ρ) hp hf
          obtain ⟨g2, f2, k2⟩ := ih (hLl.set (inR ‹_›)) f1 (m1 ▸ hg) (m1 ▸ hsub) h
          rw [m1] at g2 k2
          refine ⟨g2, f2, fun s w Q hq hrel he hwf0 hQ => ?_⟩
          refine wpAnyH_take (v := γ ρ s v) h2 hsel (free_ok hLl h2 h3) (by simpa using h1) (fun c a w hp => hq c _ _ _ w hp) ?_ (cells hwf0 hsub hrel he) ?_
          · rcases h4 with ⟨hw, hv⟩ | ⟨hw, rfl⟩
            · exact .inl ⟨by rw [wanted_ok hf.le _ _ hsu]; exact hw, fun w hS => pure_ok hT hrel.glob (back hwf0 he hS) o hv⟩
            · exact .inr ⟨by rw [wanted_ok hf.le _ _ hsu]; exact hw, rfl⟩
          · rw [p1]
            exact k2 s w Q hq hrel he hwf0 hQ
      · rename_i ht
        have hall := same_ok h
        have good : ∀ i ∈ Region.ready .any ops listed, Grows st.m st'.m ∧ FrWf st'.m st'.fr ∧ ∀ s w (Q : Exit → Act → World → Prop), QOk Q → Rel ρ n0 w0 s st.m w → Ext m0 sS s → (∀ b x, m0.get b = some x → x.cs.all (CV.wf m0) = true) →
            (∀ s' w', Ext st.m s s' → Rel ρ n0 w0 s' st'.m w' → Q .normal (act ρ s' st'.fr) w') →
            wpOp P ops Q i (fun a' w' => Cells ρ sS mS w' ∧ wpAnyH P .any ops Q (Cells ρ sS mS) k (listed.setIfInBounds i true) a' w') (act ρ s st.fr) w := by
          intro i hi
          have h := hall i hi
          split at h
          · cases h
          · rename_i o ho
            split at h
            · cases h
            rename_i hsu
            replace hsu : sureA ops st.fr o = true := by simpa using hsu
            split at h
            · rename_i hw
              cases hs : stepA P T call (b0 + i) st o with
              | none => simp [hs] at h
              | some st1 =>
                simp only [hs] at h
                split at h
                · rename_i hsub1
                  obtain ⟨g1, f1, k1⟩ := step_ok hT hcall hf hs
                  have hsub1' := sub_ok hsub1
                  obtain ⟨g2, f2, k2⟩ := ih (hLl.set (inR ‹_›)) f1 (hg.trans g1) hsub1' h
                  refine ⟨g1.trans g2, f2, fun s w Q hq hrel he hwf0 hQ => ?_⟩
                  unfold wpOp
                  simp only [ho, wanted_ok hf.le _ _ hsu, hw, if_true]
                  refine .inl (k1 s w _ Q hrel fun s1 w1 e1 r1 => ?_)
                  have he1 : Ext m0 sS s1 := he.trans hg e1
                  exact ⟨cells hwf0 hsub1' r1 he1, k2 s1 w1 Q hq r1 he1 hwf0 fun s2 w2 e2 r2 => hQ s2 w2 (e1.trans g1 e2) r2⟩
                · cases h
            · rename_i hw
              cases hp : putA st o.dst nilA with
              | none => simp [hp] at h
              | some st1 =>
                simp only [hp] at h
                obtain ⟨f1, m1, p1⟩ := put_ok (ρ := ρ) hp hf
                obtain ⟨g2, f2, k2⟩ := ih (hLl.set (inR ‹_›)) f1 (m1 ▸ hg) (m1 ▸ hsub) h
                rw [m1] at g2 k2
                refine ⟨g2, f2, fun s w Q hq hrel he hwf0 hQ => ?_⟩
                have hw' : wantedA ops st.fr o = false := by simpa using hw
                unfold wpOp
                simp only [ho, wanted_ok hf.le _ _ hsu, hw', Bool.false_eq_true, if_false]
                rw [← nil_γ (ρ := ρ) (s := s), p1]
                exact ⟨cells hwf0 hsub hrel he, k2 s w Q hq hrel he hwf0 hQ⟩
        obtain ⟨g, f, _⟩ := good r (by rw [hr]; simp)
        exact ⟨g, f, fun s w Q hq hrel he hwf0 hQ => wpAnyH_all rfl (by rw [hr]; simp) fun i hi => (good i hi).2.2 s w Q hq hrel he hwf0 hQ⟩

/-! ### Code -/
/-- What it is for a piece of code to be run rightly. -/
def Runs (P : Program) (ρ : Nat → Int) (n0 : Nat) (w0 : World) (c : Code) (st : St) (x : XX) (st' : St) : Prop :=
  Grows st.m st'.m ∧ FrWf st'.m st'.fr ∧ ∀ s w (Q : Exit → Act → World → Prop), QOk Q → Rel ρ n0 w0 s st.m w →
    (∀ s' w', Ext st.m s s' → Rel ρ n0 w0 s' st'.m w' → Q x.toExit (act ρ s' st'.fr) w') → c.wp P Q (act ρ s st.fr) w
theorem QOk.then {Q : Exit → Act → World → Prop} (h : QOk Q) (K : Act → World → Prop) : QOk (Exit.then K Q) := fun c a d v w hp => h c a d v w hp
theorem QOk.inBlock {Q : Exit → Act → World → Prop} (h : QOk Q) (id : Nat) : QOk (Exit.inBlock id Q) := fun c a d v w hp => h c a d v w hp
theorem QOk.noGoto {Q : Exit → Act → World → Prop} (h : QOk Q) : QOk (Exit.noGoto Q) := fun c a d v w hp => h c a d v w hp

theorem loop_ok {c : Code} {f : St → Option (XX × St)} (hf : ∀ st x st', FrWf st.m st.fr → f st = some (x, st') → Runs P ρ n0 w0 c st x st') :
    ∀ (n : Nat) {st : St} {x : XX} {st' : St}, FrWf st.m st.fr → loopA f n st = some (x, st') → Grows st.m st'.m ∧ FrWf st'.m st'.fr ∧
      ∀ s w (Q : Exit → Act → World → Prop), QOk Q → Rel ρ n0 w0 s st.m w →
        (∀ s' w', Ext st.m s s' → Rel ρ n0 w0 s' st'.m w' → Q x.toExit (act ρ s' st'.fr) w') → Rounds P c Q n (act ρ s st.fr) w := by
  intro n
  induction n with
  | zero => intro st x st' _ h; simp [loopA] at h
  | succ n ih =>
    intro st x st' hw h
    simp only [loopA] at h
    split at h
    · rename_i st1 h1
      obtain ⟨g1, f1, k1⟩ := hf _ _ _ hw h1
      obtain ⟨g2, f2, k2⟩ := ih f1 h
      refine ⟨g1.trans g2, f2, fun s w Q hq hr hQ => ?_⟩
      exact k1 s w _ (hq.then _) hr fun s1 w1 e1 r1 => k2 s1 w1 Q hq r1 fun s2 w2 e2 r2 => hQ s2 w2 (e1.trans g1 e2) r2
    · rename_i hne
      obtain ⟨g1, f1, k1⟩ := hf _ _ _ hw h
      refine ⟨g1, f1, fun s w Q hq hr hQ => ?_⟩
      refine k1 s w _ (hq.then _) hr fun s1 w1 e1 r1 => ?_
      have := hQ s1 w1 e1 r1
      cases x with
      | nor => exact (hne _ h).elim
      | exit i => exact this
      | ret => exact this

theorem exec_ok {call : CallFn} (hT : TabOp P ρ T) (hcall : CallOk P ρ n0 w0 call) : ∀ (c : Code) {st : St} {x : XX} {st' : St}, FrWf st.m st.fr →
    execA P T call c st = some (x, st') → Runs P ρ n0 w0 c st x st' := by
  intro c
  induction c with
  | skip => intro st x st' hf h; simp only [execA] at h; cases h; exact ⟨Grows.refl, hf, fun s w Q _ hr hQ => wp_skip (hQ s w Ext.refl hr)⟩
  | label l => intro st x st' hf h; simp only [execA] at h; cases h; exact ⟨Grows.refl, hf, fun s w Q _ hr hQ => wp_label (hQ s w Ext.refl hr)⟩
  | exit id => intro st x st' hf h; simp only [execA] at h; cases h; exact ⟨Grows.refl, hf, fun s w Q _ hr hQ => wp_exit (hQ s w Ext.refl hr)⟩
  | ret => intro st x st' hf h; simp only [execA] at h; cases h; exact ⟨Grows.refl, hf, fun s w Q _ hr hQ => wp_ret (hQ s w Ext.refl hr)⟩
  | goto l => intro st x st' hf h; simp [execA] at h
  | refuse l => intro st x st' hf h; simp [execA] at h
  | rangeFunc f ps a b _ _ => intro st x st' hf h; simp [execA] at h
  | region id ops draw =>
    intro st x st' hf h
    cases draw with
    | false =>
      simp only [execA] at h
      cases hl : listA P T call ops ops.toList st with
      | none => simp [hl] at h
      | some st1 =>
        simp [hl] at h
        obtain ⟨rfl, rfl⟩ := h
        obtain ⟨g1, f1, k1⟩ := list_ok hT hcall hf hl
        exact ⟨g1, f1, fun s w Q _ hr hQ => wp_region_list (k1 s w Q hr hQ)⟩
    | true =>
      simp only [execA] at h
      split at h
      · rename_i hc
        simp only [Bool.and_eq_true] at hc
        obtain ⟨hsel, hmix⟩ := hc
        split at h
        · rename_i hsub
          generalize hS : heldA ops st = mS at *
          cases hl : anyA P T call ops (edgesOf ops.toList) mS st.n (ops.size + 1) 0 { st with n := st.n + ops.size } with
          | none => simp [hl] at h
          | some st1 =>
            simp [hl] at h
            obtain ⟨rfl, rfl⟩ := h
            have hsub' := sub_ok hsub
            have key := fun (sS : Nat → Nat) => any_ok (ρ := ρ) (n0 := n0) (w0 := w0) (sS := sS) (m0 := st.m) hT hcall hsel hsub' ops.size (listed := Array.replicate ops.size false) (st := { st with n := st.n + ops.size }) (Lists.zero _) hf Grows.refl hsub' hl
            obtain ⟨g1, f1, _⟩ := key fun _ => 0
            refine ⟨g1, f1, fun s w Q hq hr hQ => ?_⟩
            exact wp_region_held hmix ((key s).2.2 s _ Q hq hr.drew Ext.refl hr.wf hQ)
        · cases h
      · cases h
  | seq a b iha ihb =>
    intro st x st' hf h
    simp only [execA] at h
    split at h
    · rename_i st1 h1
      obtain ⟨g1, f1, k1⟩ := iha hf h1
      obtain ⟨g2, f2, k2⟩ := ihb f1 h
      refine ⟨g1.trans g2, f2, fun s w Q hq hr hQ => wp_seq ?_⟩
      exact k1 s w _ (hq.then _) hr fun s1 w1 e1 r1 => k2 s1 w1 Q hq r1 fun s2 w2 e2 r2 => hQ s2 w2 (e1.trans g1 e2) r2
    · rename_i hne
      obtain ⟨g1, f1, k1⟩ := iha hf h
      refine ⟨g1, f1, fun s w Q hq hr hQ => wp_seq ?_⟩
      refine k1 s w _ (hq.then _) hr fun s1 w1 e1 r1 => ?_
      have := hQ s1 w1 e1 r1
      cases x with
      | nor => exact (hne _ h).elim
      | exit i => exact this
      | ret => exact this
  | cond c a b iha ihb =>
    intro st x st' hf h
    simp only [execA] at h
    split at h
    · rename_i hc
      obtain ⟨g1, f1, k1⟩ := iha hf h
      exact ⟨g1, f1, fun s w Q hq hr hQ => wp_cond_true (evalC_ok (ρ := ρ) (s := s) hr.glob hc) (k1 s w Q hq hr hQ)⟩
    · rename_i hc
      obtain ⟨g1, f1, k1⟩ := ihb hf h
      exact ⟨g1, f1, fun s w Q hq hr hQ => wp_cond_false (evalC_ok (ρ := ρ) (s := s) hr.glob hc) (k1 s w Q hq hr hQ)⟩
    · cases h
  | block id c ih =>
    intro st x st' hf h
    simp only [execA] at h
    split at h
    · rename_i i st1 h1
      obtain ⟨g1, f1, k1⟩ := ih hf h1
      split at h
      · rename_i e
        cases h
        refine ⟨g1, f1, fun s w Q hq hr hQ => wp_block (k1 s w _ (hq.inBlock _) hr fun s1 w1 e1 r1 => ?_)⟩
        simp only [XX.toExit, Exit.inBlock, e, if_true]
        exact hQ s1 w1 e1 r1
      · rename_i e
        cases h
        refine ⟨g1, f1, fun s w Q hq hr hQ => wp_block (k1 s w _ (hq.inBlock _) hr fun s1 w1 e1 r1 => ?_)⟩
        simp only [XX.toExit, Exit.inBlock, e, if_false]
        exact hQ s1 w1 e1 r1
    · rename_i hne
      obtain ⟨g1, f1, k1⟩ := ih hf h
      refine ⟨g1, f1, fun s w Q hq hr hQ => wp_block (k1 s w _ (hq.inBlock _) hr fun s1 w1 e1 r1 => ?_)⟩
      have := hQ s1 w1 e1 r1
      cases x with
      | nor => exact this
      | exit i => exact (hne _ _ h).elim
      | ret => exact this
  | loop c ih =>
    intro st x st' hf h
    simp only [execA] at h
    obtain ⟨g1, f1, k1⟩ := loop_ok (fun st x st' hf h => ih hf h) 1000 hf h
    exact ⟨g1, f1, fun s w Q hq hr hQ => wp_rounds 1000 (k1 s w Q hq hr hQ)⟩
  | scope c ih =>
    intro st x st' hf h
    simp only [execA] at h
    obtain ⟨g1, f1, k1⟩ := ih hf h
    refine ⟨g1, f1, fun s w Q hq hr hQ => wp_scope_straight (k1 s w _ hq.noGoto hr fun s1 w1 e1 r1 => ?_)⟩
    have := hQ s1 w1 e1 r1
    cases x <;> exact this

/-! ### Calls -/
/-- The table of contracts is right. -/
def ConPost (ρ : Nat → Int) (s : Nat → Nat) (n : Nat) (w : World) (v : AV) (new : Option (List CV)) (e : Ending) (w' : World) : Prop :=
  match new with
  | none => e = .returned (γ ρ s v) ∧ Below w.heap.size w w'
  | some cs => ∃ B, w.heap.size ≤ B ∧ B < w'.heap.size ∧ Below w.heap.size w w' ∧ (∀ j c, cs[j]? = some c → w'.cell? ⟨B, j, none⟩ = some (γC ρ s c)) ∧
      ∀ s' : Nat → Nat, s' n = B → e = .returned (γ ρ s' v)
def TabCon (P : Program) (ρ : Nat → Int) (n0 : Nat) (w0 : World) (T : Tab) : Prop :=
  ∀ f args n v new, T.con f args n = some (v, new) → ∀ (s : Nat → Nat) (w : World), Below n0 w0 w → Calls P f (args.map (γ ρ s)).toArray w (ConPost ρ s n w v new)

def resSem (tmps : Array Value) : ResultVar → Sem Value
  | .tmp t => pure (tmps.getD t undef)
  | .cell a t => do loadVar t (← asAddr (tmps.getD a undef))
theorem run_results {st : St} (hg : Gl s) (hC : Cells ρ s st.m w) : ∀ {rs : List ResultVar} {l : List TV}, resultsA P st rs = some l →
    (rs.mapM (resSem (act ρ s st.fr).tmps)).run P w = .ok (l.map (γT ρ s)) w
  | [], l, h => by simp [resultsA] at h; subst h; simp
  | .tmp t :: rs, l, h => by
    simp only [resultsA] at h
    split at h
    · rename_i x r h1 h2
      cases h
      have e : (act ρ s st.fr).tmps.getD t undef = γT ρ s x := evalA_ok hg (x := .tmp t) h1
      simp only [List.mapM_cons, resSem, Sem.run_bind, Sem.run_pure, Result.andThen_ok, e, run_results hg hC h2, List.map_cons]
    · cases h
  | .cell a t :: rs, l, h => by
    simp only [resultsA] at h
    split at h
    · rename_i b o r h1 h2
      cases hl : loadA P st.m t b o with
      | none => simp [hl] at h
      | some x =>
        simp [hl] at h; subst h
        have e : (act ρ s st.fr).tmps.getD a undef = .pointer (some ⟨s b, o, none⟩) := evalA_ok hg (x := .tmp a) h1
        have := run_loadAt' (P := P) hC hl
        simp only [Instr.loadAt, Instr.sureAddr, Sem.run_bind, Sem.run_pure, Result.andThen_ok] at this
        simp only [List.mapM_cons, resSem, Sem.run_bind, Sem.run_pure, Result.andThen_ok, e, asAddr, this, run_results hg hC h2, List.map_cons]
    · cases h
theorem results_ok {fn : Func} {st : St} {l : List TV} (hg : Gl s) (hC : Cells ρ s st.m w) (h : resultsA P st fn.results.toList = some l) :
    (results fn (act ρ s st.fr).tmps).run P w = .ok (γ ρ s (packA l)) w := by
  have h1 := run_results (P := P) hg hC h
  have e : results fn (act ρ s st.fr).tmps = (do let vs ← fn.results.mapM (resSem (act ρ s st.fr).tmps); pure (if h : vs.size = 1 then vs[0] else .tuple vs)) := rfl
  rw [e, Array.mapM_eq_mapM_toList]
  simp only [Sem.run_bind, Sem.run_map, h1, Result.andThen_ok, Sem.run_pure]
  congr 1
  match l with
  | [] => rfl
  | [x] => rfl
  | x :: y :: l => simp [packA, γ]

theorem get_setAll : ∀ (l : List AV) (t : Fr) (k j : Nat), k + l.length ≤ 1024 → j < 1024 → (Fr.setAll t k l).get 10 j = if k ≤ j ∧ j < k + l.length then l.getD (j - k) nilA else t.get 10 j
  | [], t, k, j, _, _ => by simp [Fr.setAll]; omega
  | v :: l, t, k, j, h, hj => by
    simp only [List.length_cons] at h
    rw [Fr.setAll, get_setAll l _ (k + 1) j (by omega) hj, Fr.get_set 10 t k j v (by omega) hj]
    by_cases h1 : j = k
    · subst h1; rw [if_neg (by omega), if_pos rfl, if_pos (by simp)]; simp
    · by_cases h2 : k + 1 ≤ j ∧ j < k + 1 + l.length
      · rw [if_pos h2, if_pos (by simp; omega)]
        rw [show j - k = (j - (k + 1)) + 1 from by omega]; rfl
      · rw [if_neg h2, if_neg (by omega), if_neg (by simp; omega)]
theorem get_of {args : List AV} {n j : Nat} (h : args.length ≤ 1024) (hj : j < 1024) : (Frm.of args n).t.get 10 j = args.getD j nilA := by
  show (Fr.setAll .nil 0 args).get 10 j = _
  rw [get_setAll args _ 0 j (by omega) hj]
  split
  · simp
  · rename_i h; rw [Fr.get_nil, List.getD_eq_getElem?_getD, List.getElem?_eq_none (by omega)]; rfl
theorem of_wf {args : List AV} {n : Nat} (ha : ∀ u ∈ args, u.wf m = true) (h : args.length + (n - args.length) ≤ 1024) : FrWf m (Frm.of args n) := by
  refine ⟨h, fun i hi => ?_⟩
  rw [get_of (by omega) hi, List.getD_eq_getElem?_getD]
  cases hc : args[i]? with
  | none => rfl
  | some v => exact ha v (List.mem_of_getElem? hc)
theorem act_of {args : List AV} {n : Nat} (h : args.length + (n - args.length) ≤ 1024) :
    ({ tmps := (args.map (γ ρ s)).toArray ++ Array.replicate (n - (args.map (γ ρ s)).toArray.size) undef, defers := [] } : Act) = act ρ s (Frm.of args n) := by
  simp only [act, Act.mk.injEq, and_true]
  apply Array.ext'
  apply List.ext_getElem?
  intro i
  simp only [Array.toList_append, Array.toList_replicate, List.size_toArray, List.length_map]
  show (List.map (γ ρ s) args ++ List.replicate (n - args.length) undef)[i]? = (List.map (fun i => γ ρ s ((Frm.of args n).t.get 10 i)) (List.range (args.length + (n - args.length))))[i]?
  by_cases hi : i < args.length + (n - args.length)
  · rw [List.getElem?_map, List.getElem?_range hi, Option.map_some, get_of (by omega) (by omega), List.getD_eq_getElem?_getD]
    by_cases hl : i < args.length
    · rw [List.getElem?_append_left (by simpa using hl)]; simp [hl]
    · rw [List.getElem?_append_right (by simp; omega), List.getElem?_eq_none (l := args) (by omega)]
      rw [List.getElem?_replicate, if_pos (by simp; omega)]; rfl
  · rw [List.getElem?_eq_none (by simp; omega), List.getElem?_eq_none (by simp; omega)]

theorem call_ok (hT : TabOp P ρ T) (hcon : TabCon P ρ n0 w0 T) : ∀ d, CallOk P ρ n0 w0 (callA P T d)
  | 0 => fun f args m n v m' n' h => by simp [callA] at h
  | d + 1 => by
    intro f args m n v m' n' h hargs
    simp only [callA] at h
    split at h
    · rename_i v1 hc
      cases h
      refine ⟨Grows.refl, fun s w hr => ?_⟩
      refine (hcon _ _ _ _ _ hc s w hr.below).mono fun e w' ⟨he, hb⟩ => ⟨s, Ext.refl, he, hr.call hb⟩
    · rename_i v1 cs hc
      split at h
      · cases h
      · rename_i hn
        split at h
        · rename_i hwf
          cases h
          refine ⟨grows_put _ _, fun s w hr => ?_⟩
          refine (hcon _ _ _ _ _ hc s w hr.below).mono fun e w' ⟨B, h1, h2, h3, h4, h5⟩ => ?_
          obtain ⟨s', k1, k2, k3⟩ := hr.put (nm := n) (wr := false) h3 (by simpa using hn) h1 h2 hwf h4 (fun h => by cases h)
          exact ⟨s', k1, h5 s' k2, k3⟩
        · cases h
    · split at h
      · rename_i fn hfn
        split at h
        · rename_i c hb
          split at h
          · rename_i hle
            have hle : args.length + (fn.ntmps - args.length) ≤ 1024 := by simpa using hle
            have hf0 : FrWf m (Frm.of args fn.ntmps) := of_wf hargs hle
            have fin : ∀ {x : XX} {st : St}, execA P T (callA P T d) c ⟨Frm.of args fn.ntmps, m, n⟩ = some (x, st) → (x.toExit = .normal ∨ x.toExit = .ret) →
                (resultsA P st fn.results.toList).map (fun r => (packA r, st.m, st.n)) = some (v, m', n') → Grows m m' ∧
                ∀ s w, Rel ρ n0 w0 s m w → Calls P f (args.map (γ ρ s)).toArray w fun e w' => ∃ s', Ext m s s' ∧ e = .returned (γ ρ s' v) ∧ Rel ρ n0 w0 s' m' w' := by
              intro x st hx hxe hres
              simp only [Option.map_eq_some_iff, Prod.mk.injEq] at hres
              obtain ⟨l, hl, rfl, rfl, rfl⟩ := hres
              obtain ⟨g1, f1, k1⟩ := exec_ok hT (call_ok hT hcon d) c hf0 hx
              refine ⟨g1, fun s w hr => ?_⟩
              refine calls_of_wp hfn hb ?_
              have e : ({ tmps := (args.map (γ ρ s)).toArray ++ Array.replicate (fn.ntmps - (args.map (γ ρ s)).toArray.size) undef, defers := [] } : Act) = act ρ s (Frm.of args fn.ntmps) := act_of hle
              rw [e]
              refine k1 s w _ (fun c a d v w hp => ?_) hr fun s1 w1 e1 r1 => ?_
              · cases d <;> exact hp
              · have hres := results_ok (fn := fn) r1.glob r1.cells hl
                have hbp : bodyPost P fn (fun e w' => ∃ s', Ext m s s' ∧ e = .returned (γ ρ s' (packA l)) ∧ Rel ρ n0 w0 s' st.m w') .ret (act ρ s1 st.fr) w1 :=
                  ⟨rfl, _, hres, s1, e1, rfl, r1⟩
                rcases hxe with hxe | hxe <;> rw [hxe] <;> exact hbp
            split at h
            · rename_i st hx; exact fin hx (.inl rfl) h
            · rename_i st hx; exact fin hx (.inr rfl) h
            · cases h
          · cases h
        · cases h
      · cases h

/-- **A function run over what is known of the memory.** -/
theorem run_okM {m0 : Mem} (hT : TabOp P ρ T) {s : Nat → Nat} {w : World} (hcon : TabCon P ρ w.heap.size w T) {d : Nat} {f : FuncId} {args : List AV} {v : AV} (h : runM P T d m0 f args = some v) (hargs : ∀ u ∈ args, u.wf m0 = true)
    (hr : Rel ρ w.heap.size w s m0 w) :
    Calls P f (args.map (γ ρ s)).toArray w fun e w' => (∃ s', e = .returned (γ ρ s' v)) ∧ Below w.heap.size w w' := by
  unfold runM at h
  simp only [Option.map_eq_some_iff] at h
  obtain ⟨⟨v1, m1, n1⟩, h, rfl⟩ := h
  obtain ⟨_, k⟩ := call_ok (n0 := w.heap.size) (w0 := w) hT hcon d f args m0 0 v1 m1 n1 h hargs
  exact (k s w hr).mono fun e w' ⟨s', _, he, hr'⟩ => ⟨⟨s', he⟩, hr'.below⟩
/-- The names at the start. -/
def s0 (b : Nat) : Nat := if 1000000 ≤ b then b - 1000000 else 0
theorem s0_gl : Gl s0 := fun g => by unfold s0; rw [if_pos (by omega)]; omega
/-- **A function run from nothing.** -/
theorem run_ok (hT : TabOp P ρ T) {w : World} (hcon : TabCon P ρ w.heap.size w T) {d : Nat} {f : FuncId} {args : List AV} {v : AV} (h : runA P T d f args = some v) (hargs : ∀ u ∈ args, u.wf [] = true) :
    Calls P f (args.map (γ ρ s0)).toArray w fun e w' => (∃ s', e = .returned (γ ρ s' v)) ∧ Below w.heap.size w w' :=
  run_okM (m0 := []) hT hcon h hargs ⟨fun b x hx => (nomatch hx), fun b x hx => (nomatch hx), fun b x hx => (nomatch hx), fun b b' x x' hb => (nomatch hb), fun b x hx => (nomatch hx), Below.refl _ _, Nat.le_refl _, s0_gl⟩

end
end Go.Proofs.Ytpdaigenffecmaa
