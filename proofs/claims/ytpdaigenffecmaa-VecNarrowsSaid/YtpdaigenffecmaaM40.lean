/-
  The executor's tables: arithmetic and comparisons; contracts by a list.
-/
import Derived.Test.YtpdaigenffecmaaM39
set_option linter.all false
namespace Go.Proofs.Ytpdaigenffecmaa
open Go Go.RowKit

/-! ### What asks nothing of the memory -/
def pureRun {α : Type} (P : Program) : Sem α → Option α
  | .pure a => some a
  | .program k => pureRun P (k P)
  | .mark _ k => pureRun P k
  | _ => none
theorem pureRun_ok {α : Type} {P : Program} : ∀ {x : Sem α} {a : α}, pureRun P x = some a → ∀ w, x.run P w = .ok a w := by
  intro x
  induction x with
  | pure b => intro a h w; simp only [pureRun] at h; cases h; rfl
  | program k ih => intro a h w; simp only [pureRun] at h; exact ih P h w
  | mark m k ih => intro a h w; simp only [pureRun] at h; exact ih h w
  | _ => intro a h; simp [pureRun] at h

def litC : CV → Option Value
  | .int k (.lit i) => some (.int k i)
  | .bool b => some (.bool b)
  | .nilp => some (.pointer none)
  | .niliface => some .nilIface
  | _ => none
theorem litC_ok {ρ : Nat → Int} {s : Nat → Nat} {c : CV} {v : Value} (h : litC c = some v) : γC ρ s c = v := by
  cases c with
  | int k x => cases x <;> simp [litC] at h; subst h; rfl
  | bool b => simp [litC] at h; subst h; rfl
  | nilp => simp [litC] at h; subst h; rfl
  | niliface => simp [litC] at h; subst h; rfl
  | _ => simp [litC] at h
def litA : AV → Option Value
  | .v (.one c) => litC c
  | _ => none
theorem litA_ok {ρ : Nat → Int} {s : Nat → Nat} {c : AV} {v : Value} (h : litA c = some v) : γ ρ s c = v := by
  unfold litA at h
  split at h
  · exact litC_ok h
  · cases h
def litsA : List AV → Option (List Value)
  | [] => some []
  | v :: l => match litA v, litsA l with
    | some c, some r => some (c :: r)
    | _, _ => none
theorem litsA_ok {ρ : Nat → Int} {s : Nat → Nat} : ∀ {l : List AV} {r : List Value}, litsA l = some r → l.map (γ ρ s) = r
  | [], r, h => by simp [litsA] at h; subst h; rfl
  | v :: l, r, h => by
    simp only [litsA] at h
    split at h
    · rename_i c q h1 h2; cases h; simp [litA_ok h1, litsA_ok h2]
    · cases h
def backA (x : Option Value) : Option AV :=
  match x with
  | some v => (reifyT v).map .v
  | none => none

/-! ### Facts on numbers that are letters -/
structure Facts where
  cmp : List (BinOp × AI × AI × Bool) := []
  ar : List (BinOp × IntKind × AI × IntKind × AI × AI) := []   -- the operation, the first operand's kind and value, the second's, the result
  cv : List (IntKind × AI × AI) := []
  mm : List (Bool × AI × AI × AI) := []   -- (max?, x, y, result)
def cmpI : BinOp → Int → Int → Option Bool
  | .eql, a, b => some (a == b)
  | .neq, a, b => some (a != b)
  | .lss, a, b => some (decide (a < b))
  | .leq, a, b => some (decide (a ≤ b))
  | .gtr, a, b => some (decide (a > b))
  | .geq, a, b => some (decide (a ≥ b))
  | _, _, _ => none
/-- What an operation on two whole numbers answers. -/
def ArOk (op : BinOp) (k : IntKind) (x : Int) (j : IntKind) (y r : Int) : Prop :=
  ∀ (P : Program) (t : TypeId) (w : World), (binOp op t (.int k x) (.int j y)).run P w = .ok (.int k r) w
theorem ar_add {k : IntKind} {x y r : Int} (h : k.wrap (x + y) = r) : ArOk .add k x k y r := by
  intro P t w; rw [← h]; simp [binOp, Op.intArith]
theorem ar_sub {k : IntKind} {x y r : Int} (h : k.wrap (x - y) = r) : ArOk .sub k x k y r := by
  intro P t w; rw [← h]; simp [binOp, Op.intArith]
theorem ar_mul {k : IntKind} {x y r : Int} (h : k.wrap (x * y) = r) : ArOk .mul k x k y r := by
  intro P t w; rw [← h]; simp [binOp, Op.intArith]
structure FactsOk (ρ : Nat → Int) (F : Facts) : Prop where
  cmp : ∀ e ∈ F.cmp, cmpI e.1 (γI ρ e.2.1) (γI ρ e.2.2.1) = some e.2.2.2
  ar : ∀ e ∈ F.ar, ArOk e.1 e.2.1 (γI ρ e.2.2.1) e.2.2.2.1 (γI ρ e.2.2.2.2.1) (γI ρ e.2.2.2.2.2)
  cv : ∀ e ∈ F.cv, e.1.wrap (γI ρ e.2.1) = γI ρ e.2.2
  mm : ∀ e ∈ F.mm, (if e.1 then max (γI ρ e.2.1) (γI ρ e.2.2.1) else min (γI ρ e.2.1) (γI ρ e.2.2.1)) = γI ρ e.2.2.2
def findCmp (op : BinOp) (a b : AI) : List (BinOp × AI × AI × Bool) → Option Bool
  | [] => none
  | (o, x, y, r) :: l => if o = op ∧ x = a ∧ y = b then some r else findCmp op a b l
def findAr (op : BinOp) (k : IntKind) (a : AI) (j : IntKind) (b : AI) : List (BinOp × IntKind × AI × IntKind × AI × AI) → Option AI
  | [] => none
  | (o, k', x, j', y, r) :: l => if o = op ∧ k' = k ∧ x = a ∧ j' = j ∧ y = b then some r else findAr op k a j b l
def findCv (k : IntKind) (a : AI) : List (IntKind × AI × AI) → Option AI
  | [] => none
  | (j, x, r) :: l => if j = k ∧ x = a then some r else findCv k a l
def findMm (q : Bool) (a b : AI) : List (Bool × AI × AI × AI) → Option AI
  | [] => none
  | (j, x, y, r) :: l => if j = q ∧ x = a ∧ y = b then some r else findMm q a b l
theorem findCmp_ok {op : BinOp} {a b : AI} {r : Bool} : ∀ {l : List (BinOp × AI × AI × Bool)}, findCmp op a b l = some r → (op, a, b, r) ∈ l
  | [], h => by simp [findCmp] at h
  | (o, x, y, q) :: l, h => by
    simp only [findCmp] at h
    split at h
    · rename_i e; cases h; obtain ⟨rfl, rfl, rfl⟩ := e; exact List.mem_cons_self
    · exact List.mem_cons_of_mem _ (findCmp_ok h)
theorem findAr_ok {op : BinOp} {k j : IntKind} {a b r : AI} : ∀ {l : List (BinOp × IntKind × AI × IntKind × AI × AI)}, findAr op k a j b l = some r → (op, k, a, j, b, r) ∈ l
  | [], h => by simp [findAr] at h
  | (o, k', x, j', y, q) :: l, h => by
    simp only [findAr] at h
    split at h
    · rename_i e; cases h; obtain ⟨rfl, rfl, rfl, rfl, rfl⟩ := e; exact List.mem_cons_self
    · exact List.mem_cons_of_mem _ (findAr_ok h)
theorem findCv_ok {k : IntKind} {a r : AI} : ∀ {l : List (IntKind × AI × AI)}, findCv k a l = some r → (k, a, r) ∈ l
  | [], h => by simp [findCv] at h
  | (j, x, q) :: l, h => by
    simp only [findCv] at h
    split at h
    · rename_i e; cases h; obtain ⟨rfl, rfl⟩ := e; exact List.mem_cons_self
    · exact List.mem_cons_of_mem _ (findCv_ok h)
theorem findMm_ok {k : Bool} {a b r : AI} : ∀ {l : List (Bool × AI × AI × AI)}, findMm k a b l = some r → (k, a, b, r) ∈ l
  | [], h => by simp [findMm] at h
  | (j, x, y, q) :: l, h => by
    simp only [findMm] at h
    split at h
    · rename_i e; cases h; obtain ⟨rfl, rfl, rfl⟩ := e; exact List.mem_cons_self
    · exact List.mem_cons_of_mem _ (findMm_ok h)
/-- A comparison: of numbers as they are; of one letter with itself; by the facts. -/
def cmpA (F : Facts) (op : BinOp) (a b : AI) : Option Bool :=
  match a, b with
  | .lit i, .lit j => cmpI op i j
  | a, b =>
    if a = b then (match op with
      | .eql | .leq | .geq => some true
      | .neq | .lss | .gtr => some false
      | _ => none)
    else findCmp op a b F.cmp
theorem cmpA_ok {ρ : Nat → Int} {F : Facts} (hF : FactsOk ρ F) {op : BinOp} {a b : AI} {r : Bool} (h : cmpA F op a b = some r) : cmpI op (γI ρ a) (γI ρ b) = some r := by
  unfold cmpA at h
  split at h
  · exact h
  · split at h
    · rename_i e
      subst e
      cases op <;> simp at h <;> subst h <;> simp [cmpI]
    · exact hF.cmp _ (findCmp_ok h)
/-- Equality of rows. -/
def eqRow (F : Facts) : List AI → List AI → Option Bool
  | [], [] => some true
  | a :: l, b :: r => match cmpA F .eql a b with
    | some true => eqRow F l r
    | some false => if l.length = r.length then some false else none
    | none => match eqRow F l r with
      | some false => some false
      | _ => none
  | _, _ => none
theorem eqRow_ok {ρ : Nat → Int} {F : Facts} (hF : FactsOk ρ F) : ∀ {l r : List AI} {q : Bool}, eqRow F l r = some q → decide (l.map (γI ρ) = r.map (γI ρ)) = q
  | [], [], q, h => by simp [eqRow] at h; subst h; rfl
  | a :: l, b :: r, q, h => by
    simp only [eqRow] at h
    split at h
    · rename_i hc
      have := cmpA_ok hF hc
      simp only [cmpI, Option.some.injEq, beq_iff_eq] at this
      rw [← eqRow_ok hF h]
      simp [this]
    · rename_i hc
      have := cmpA_ok hF hc
      simp only [cmpI, Option.some.injEq, beq_eq_false_iff_ne, ne_eq] at this
      split at h
      · cases h; simp [this]
      · cases h
    · split at h
      · rename_i hr
        cases h
        have := eqRow_ok hF hr
        simp only [decide_eq_false_iff_not] at this
        simp [this]
      · cases h
  | [], b :: r, q, h => by simp [eqRow] at h
  | a :: l, [], q, h => by simp [eqRow] at h
/-- The type's values are n numbers of 64 bits, and '==' compares them. -/
def EqOk (P : Program) (t : TypeId) (n : Nat) : Prop :=
  ∀ (xs ys : List Int) (w : World), xs.length = n → ys.length = n →
    (binOp .eql t (.agg (xs.map (Value.int .i64)).toArray) (.agg (ys.map (Value.int .i64)).toArray)).run P w = .ok (.bool (decide (xs = ys))) w ∧
    (binOp .neq t (.agg (xs.map (Value.int .i64)).toArray) (.agg (ys.map (Value.int .i64)).toArray)).run P w = .ok (.bool (!decide (xs = ys))) w ∧
    ∀ (op : BinOp) (x y : Operand), (eqGuard op t x y (.agg (xs.map (Value.int .i64)).toArray) (.agg (ys.map (Value.int .i64)).toArray)).run P w = .ok () w
def rowOf : List CV → Option (List AI)
  | [] => some []
  | .int .i64 a :: l => (rowOf l).map (a :: ·)
  | _ => none
theorem rowOf_ok {ρ : Nat → Int} {s : Nat → Nat} : ∀ {l : List CV} {r : List AI}, rowOf l = some r → l.map (γC ρ s) = (r.map (γI ρ)).map (Value.int .i64)
  | [], r, h => by simp [rowOf] at h; subst h; rfl
  | c :: l, r, h => by
    unfold rowOf at h
    split at h
    · rename_i e; cases e
    · rename_i a l' e
      cases e
      cases hl : rowOf l with
      | none => simp [hl] at h
      | some q => simp [hl] at h; subst h; simp [rowOf_ok hl, γC]
    · cases h
def sizeOfE (t : TypeId) : List (TypeId × Nat) → Option Nat
  | [] => none
  | (u, n) :: l => if Nat.beq u t then some n else sizeOfE t l
theorem sizeOfE_ok {t : TypeId} {n : Nat} : ∀ {l : List (TypeId × Nat)}, sizeOfE t l = some n → (t, n) ∈ l
  | [], h => by simp [sizeOfE] at h
  | (u, k) :: l, h => by
    simp only [sizeOfE] at h
    split at h
    · rename_i e; cases h; rw [Nat.eq_of_beq_eq_true e]; exact List.mem_cons_self
    · exact List.mem_cons_of_mem _ (sizeOfE_ok h)

def mmA (F : Facts) (q : Bool) (a b : AI) : Option AI :=
  match a, b with
  | .lit i, .lit j => some (.lit (if q then max i j else min i j))
  | a, b => if a = b then some a else findMm q a b F.mm
theorem mmA_ok {ρ : Nat → Int} {F : Facts} (hF : FactsOk ρ F) {q : Bool} {a b r : AI} (h : mmA F q a b = some r) :
    (if q then max (γI ρ a) (γI ρ b) else min (γI ρ a) (γI ρ b)) = γI ρ r := by
  unfold mmA at h
  split at h
  · cases h; rfl
  · split at h
    · rename_i e; subst e; cases h; cases q <;> simp
    · exact hF.mm _ (findMm_ok h)
def mmL (F : Facts) (q : Bool) (k : IntKind) (a : AI) : List AV → Option AI
  | [] => some a
  | .v (.one (.int j b)) :: l => if j = k then match mmA F q a b with
      | some c => mmL F q k c l
      | none => none
    else none
  | _ => none

/-- The table of operations. -/
def opT (P : Program) (F : Facts) (E : List (TypeId × Nat)) (o : Op) (vs : List AV) : Option AV :=
  match o, vs with
  | .binOp op t x y _, [.v (.one (.int k a)), .v (.one (.int j b))] =>
    match cmpI op 0 0 with
    | some _ => if k = j then (cmpA F op a b).map fun r => .v (.one (.bool r)) else none
    | none => match a, b with
      | .lit a, .lit b => backA (pureRun P (binOp op t (.int k a) (.int j b)))
      | a, b => (findAr op k a j b F.ar).map fun r => .v (.one (.int k r))
  | .binOp op t _ _ _, [.v (.agg xs), .v (.agg ys)] =>
    match sizeOfE t E, rowOf xs, rowOf ys with
    | some n, some xs, some ys => if xs.length = n ∧ ys.length = n then
        match op with
        | .eql => (eqRow F xs ys).map fun r => .v (.one (.bool r))
        | .neq => (eqRow F xs ys).map fun r => .v (.one (.bool (!r)))
        | _ => none
      else none
    | _, _, _ => none
  | .binOp op t x y _, [.v (.one (.bool a)), .v (.one (.bool b))] => backA (pureRun P (do eqGuard op t x y (.bool a) (.bool b); binOp op t (.bool a) (.bool b)))
  | .binOp op t x y _, [.v (.one (.bsym a)), .v (.one (.bsym b))] => if a = b then
      match pureRun P (do eqGuard op t x y (.bool false) (.bool false); binOp op t (.bool false) (.bool false)), pureRun P (do eqGuard op t x y (.bool true) (.bool true); binOp op t (.bool true) (.bool true)) with
      | some (.bool r), some (.bool q) => if r = q then some (.v (.one (.bool r))) else none
      | _, _ => none
    else none
  | .unOp u _ _, [a] => match litA a with
    | some a => backA (pureRun P (Op.unary u a))
    | none => match u, a with
      | .neg, .v (.one (.int k a)) => (findAr .sub k (.lit 0) k a F.ar).map fun r => .v (.one (.int k r))
      | _, _ => none
  | .convert s d _, [.v (.one (.int k a))] => match a with
    | .lit a => backA (pureRun P (convert s d (.int k a)))
    | a => match P.underlying s, P.underlying d with
      | some (.int _), some (.int k) => (findCv k a F.cv).map fun r => .v (.one (.int k r))
      | _, _ => none
  | .call { callee := .builtin .len, argTypes, .. }, [.v (.one (.slice _ _ n _))] => match argTypes[0]? with
    | some t => match P.underlying t with
      | some (.slice _) => some (.v (.one (.int .i64 (.lit n))))
      | _ => none
    | none => none
  | .call { callee := .builtin .min, .. }, .v (.one (.int k a)) :: l => (mmL F false k a l).map fun r => .v (.one (.int k r))
  | .call { callee := .builtin .max, .. }, .v (.one (.int k a)) :: l => (mmL F true k a l).map fun r => .v (.one (.int k r))
  | _, _ => none
theorem wordsOf {o : Op} {ev : Operand → Value} {vs : List Value} (h : o.operands.toList.map ev = vs) (l : List Operand) (hl : o.operands = l.toArray) : l.map ev = vs := by
  rw [hl] at h; simpa using h
theorem backA_ok {ρ : Nat → Int} {s : Nat → Nat} {x : Option Value} {v : AV} (h : backA x = some v) : ∃ u, x = some u ∧ γ ρ s v = u := by
  unfold backA at h
  split at h
  · rename_i u
    simp only [Option.map_eq_some_iff] at h
    obtain ⟨t, ht, rfl⟩ := h
    exact ⟨u, rfl, reifyT_ok ht⟩
  · cases h
theorem run_cmpI {P : Program} {op : BinOp} {t : TypeId} {k : IntKind} {a b : Int} {r : Bool} (h : cmpI op a b = some r) (w : World) : (binOp op t (.int k a) (.int k b)).run P w = .ok (.bool r) w := by
  cases op <;> simp [cmpI] at h <;> subst h <;> simp [binOp, Op.intCmp]
theorem run_guard_int {P : Program} {op : BinOp} {t : TypeId} {x y : Operand} {j k : IntKind} {a b : Int} (w : World) : (eqGuard op t x y (.int k a) (.int j b)).run P w = .ok () w := by
  unfold eqGuard
  cases op <;> rfl
theorem mmL_ok {P : Program} {ρ : Nat → Int} {s : Nat → Nat} {F : Facts} (hF : FactsOk ρ F) {q : Bool} {k : IntKind} {w : World} : ∀ {l : List AV} {a r : AI}, mmL F q k a l = some r →
    ((l.map (γ ρ s)).foldlM (if q then Builtin.max2 else Builtin.min2) (.int k (γI ρ a))).run P w = .ok (.int k (γI ρ r)) w
  | [], a, r, h => by simp [mmL] at h; subst h; simp
  | x :: l, a, r, h => by
    unfold mmL at h
    split at h
    · rename_i e; cases e
    · rename_i j b l' e
      cases e
      split at h
      · rename_i e; cases e
        split at h
        · rename_i c hc
          have h1 := mmA_ok hF hc
          have h2 := mmL_ok (P := P) (s := s) (w := w) hF h
          simp only [List.map_cons, List.foldlM_cons, Sem.run_bind]
          have : ((if q then Builtin.max2 else Builtin.min2) (.int k (γI ρ a)) (γ ρ s (.v (.one (.int k b))))).run P w = .ok (.int k (γI ρ c)) w := by
            cases q
            · simp only [Bool.false_eq_true, if_false] at h1 ⊢
              show (Builtin.min2 (.int k (γI ρ a)) (.int k (γI ρ b))).run P w = _
              simp only [Builtin.min2, Sem.run_pure, ← h1]
              congr 2
              split <;> omega
            · simp only [if_true] at h1 ⊢
              show (Builtin.max2 (.int k (γI ρ a)) (.int k (γI ρ b))).run P w = _
              simp only [Builtin.max2, Sem.run_pure, ← h1]
              congr 2
              split <;> omega
          rw [this]
          exact h2
        · cases h
      · cases h
    · cases h

theorem opT_ok {P : Program} {ρ : Nat → Int} {F : Facts} {E : List (TypeId × Nat)} (hF : FactsOk ρ F) (hE : ∀ e ∈ E, EqOk P e.1 e.2) (con : FuncId → List AV → Nat → Option (AV × Option (List CV))) :
    TabOp P ρ ⟨opT P F E, con⟩ := by
  intro o vs v h s ev hev x w hx
  obtain ⟨dst, op, ty, pos, aft, gd⟩ := x
  simp only at hx
  subst hx
  simp only at h
  unfold opT at h
  split at h
  · -- numbers
    rename_i op t x y yt k a j b
    have h2 := wordsOf hev [x, y] rfl
    simp only [List.map_cons, List.map_nil, List.cons.injEq, and_true] at h2
    obtain ⟨hx, hy⟩ := h2
    have hx' : ev x = .int k (γI ρ a) := hx
    have hy' : ev y = .int j (γI ρ b) := hy
    split at h
    · split at h
      · rename_i e; subst e
        simp only [Option.map_eq_some_iff] at h
        obtain ⟨r, hr, rfl⟩ := h
        simp only [execOp, Sem.run_bind, hx', hy', run_guard_int, Result.andThen_ok, run_cmpI (cmpA_ok hF hr), Sem.run_pure]
        rfl
      · cases h
    · split at h
      · rename_i a b
        obtain ⟨u, hu, hv⟩ := backA_ok (ρ := ρ) (s := s) h
        simp only [execOp, Sem.run_bind, hx', hy', run_guard_int, Result.andThen_ok, γI, pureRun_ok hu, Sem.run_pure, hv]
      · simp only [Option.map_eq_some_iff] at h
        obtain ⟨r, hr, rfl⟩ := h
        have := hF.ar _ (findAr_ok hr) P t w
        simp only at this
        simp only [execOp, Sem.run_bind, hx', hy', run_guard_int, Result.andThen_ok, this, Sem.run_pure]
        rfl
  · -- rows
    rename_i op t x y yt xs ys
    have h2 := wordsOf hev [x, y] rfl
    simp only [List.map_cons, List.map_nil, List.cons.injEq, and_true] at h2
    obtain ⟨hx, hy⟩ := h2
    have hx' : ev x = .agg (xs.map (γC ρ s)).toArray := hx
    have hy' : ev y = .agg (ys.map (γC ρ s)).toArray := hy
    split at h
    · rename_i n xs' ys' hn hxs hys
      split at h
      · rename_i hl
        rw [rowOf_ok hxs] at hx'
        rw [rowOf_ok hys] at hy'
        obtain ⟨e1, e2, e3⟩ := hE _ (sizeOfE_ok hn) (xs'.map (γI ρ)) (ys'.map (γI ρ)) w (by simp [hl.1]) (by simp [hl.2])
        split at h
        · simp only [Option.map_eq_some_iff] at h
          obtain ⟨r, hr, rfl⟩ := h
          simp only [execOp, Sem.run_bind, hx', hy', e3, Result.andThen_ok, e1, Sem.run_pure, eqRow_ok hF hr]
          rfl
        · simp only [Option.map_eq_some_iff] at h
          obtain ⟨r, hr, rfl⟩ := h
          simp only [execOp, Sem.run_bind, hx', hy', e3, Result.andThen_ok, e2, Sem.run_pure, eqRow_ok hF hr]
          rfl
        · cases h
      · cases h
    · cases h
  · -- bools
    rename_i op t x y yt a b
    have h2 := wordsOf hev [x, y] rfl
    simp only [List.map_cons, List.map_nil, List.cons.injEq, and_true] at h2
    obtain ⟨hx, hy⟩ := h2
    have hx' : ev x = .bool a := hx
    have hy' : ev y = .bool b := hy
    obtain ⟨u, hu, hv⟩ := backA_ok (ρ := ρ) (s := s) h
    have := pureRun_ok hu w
    simp only [execOp, hx', hy']
    rw [Sem.run_bind, this, hv]; rfl
  · -- one bool by letter with itself
    rename_i op t x y yt a b
    have h2 := wordsOf hev [x, y] rfl
    simp only [List.map_cons, List.map_nil, List.cons.injEq, and_true] at h2
    obtain ⟨hx, hy⟩ := h2
    have hx' : ev x = .bool (decide (ρ a ≠ 0)) := hx
    have hy' : ev y = .bool (decide (ρ b ≠ 0)) := hy
    split at h
    · rename_i e
      subst e
      generalize decide (ρ a ≠ 0) = q at hx' hy'
      split at h
      · rename_i r r' h1 h2
        split at h
        · rename_i e
          subst e
          cases h
          have h3 := pureRun_ok h1 w
          have h4 := pureRun_ok h2 w
          simp only [execOp, hx', hy']
          cases q
          · rw [Sem.run_bind, h3]; rfl
          · rw [Sem.run_bind, h4]; rfl
        · cases h
      · cases h
    · cases h
  · -- one operand
    rename_i u t x a
    have h2 := wordsOf hev [x] rfl
    simp only [List.map_cons, List.map_nil, List.cons.injEq, and_true] at h2
    split at h
    · rename_i a' ha
      obtain ⟨u', hu, hv⟩ := backA_ok (ρ := ρ) (s := s) h
      have := pureRun_ok hu w
      rw [litA_ok ha] at h2
      simp only [execOp, h2, Sem.run_bind, this, hv]; rfl
    · split at h
      · rename_i k a _
        simp only [Option.map_eq_some_iff] at h
        obtain ⟨r, hr, rfl⟩ := h
        have e : ev x = .int k (γI ρ a) := h2
        have := hF.ar _ (findAr_ok hr) P t w
        have e2 : (Op.unary .neg (.int k (γI ρ a)) : Sem Value) = binOp .sub t (.int k (γI ρ (.lit 0))) (.int k (γI ρ a)) := by
          simp [Op.unary, binOp, γI]
        simp only at this
        simp only [execOp, e, Sem.run_bind, e2, this]; rfl
      · cases h
  · -- conversions
    rename_i t d x k a
    have h2 := wordsOf hev [x] rfl
    simp only [List.map_cons, List.map_nil, List.cons.injEq, and_true] at h2
    have hx' : ev x = .int k (γI ρ a) := h2
    split at h
    · rename_i a
      obtain ⟨u', hu, hv⟩ := backA_ok (ρ := ρ) (s := s) h
      have := pureRun_ok hu w
      simp only [execOp, hx', γI, Sem.run_bind, this, hv]; rfl
    · split at h
      · rename_i k1 k2 hu1 hu2
        simp only [Option.map_eq_some_iff] at h
        obtain ⟨r, hr, rfl⟩ := h
        have := hF.cv _ (findCv_ok hr)
        simp only [execOp, hx', convert, Sem.run_bind, run_und hu1, run_und hu2, Result.andThen_ok, Conv.intToInt, Sem.run_pure, this]
        rfl
      · cases h
  · -- len
    rename_i args argTypes b off n cap
    have h2 : args.toList.map ev = [.slice (some ⟨s b, off, none⟩) n cap] := by
      have := hev
      simp only [Op.operands, Call.operands] at this
      simpa [γ, γT, γC] using this
    split at h
    · rename_i t ht
      split at h
      · rename_i e hu
        cases h
        have ha : args.map ev = #[.slice (some ⟨s b, off, none⟩) n cap] := Array.ext' (by rw [Array.toList_map, h2])
        simp only [execOp, resolve, ha, Sem.run_bind, Sem.run_pure, Result.andThen_ok, invoke, builtin, Builtin.len_, ht]
        simp [run_und hu, goInt, γ, γT, γC, γI]
      · cases h
    · cases h
  · -- min
    rename_i args argTypes k a l
    have h2 : args.toList.map ev = .int k (γI ρ a) :: l.map (γ ρ s) := by
      have := hev
      simp only [Op.operands, Call.operands] at this
      simpa [γ, γT, γC] using this
    simp only [Option.map_eq_some_iff] at h
    obtain ⟨r, hr, rfl⟩ := h
    have ha : args.map ev = (.int k (γI ρ a) :: l.map (γ ρ s)).toArray := Array.ext' (by rw [Array.toList_map, h2])
    have hm := mmL_ok (P := P) (s := s) (w := w) hF hr
    simp only [Bool.false_eq_true, if_false] at hm
    simp only [execOp, resolve, ha, Sem.run_bind, Sem.run_pure, Result.andThen_ok, invoke, builtin, Builtin.min_, hm]
    rfl
  · -- max
    rename_i args argTypes k a l
    have h2 : args.toList.map ev = .int k (γI ρ a) :: l.map (γ ρ s) := by
      have := hev
      simp only [Op.operands, Call.operands] at this
      simpa [γ, γT, γC] using this
    simp only [Option.map_eq_some_iff] at h
    obtain ⟨r, hr, rfl⟩ := h
    have ha : args.map ev = (.int k (γI ρ a) :: l.map (γ ρ s)).toArray := Array.ext' (by rw [Array.toList_map, h2])
    have hm := mmL_ok (P := P) (s := s) (w := w) hF hr
    simp only [if_true] at hm
    simp only [execOp, resolve, ha, Sem.run_bind, Sem.run_pure, Result.andThen_ok, invoke, builtin, Builtin.max_, hm]
    rfl
  · cases h

/-! ### Contracts by a list -/
structure Ent where
  f : FuncId
  args : List AV
  res : AV
/-- A contract that may lean on what lay below n0 at the start. -/
def EntOkB (P : Program) (ρ : Nat → Int) (n0 : Nat) (w0 : World) (e : Ent) : Prop :=
  ∀ (s : Nat → Nat) (w : World), Below n0 w0 w → Calls P e.f (e.args.map (γ ρ s)).toArray w fun x w' => x = .returned (γ ρ s e.res) ∧ Below w.heap.size w w'
def EntOk (P : Program) (ρ : Nat → Int) (e : Ent) : Prop :=
  ∀ (s : Nat → Nat) (w : World), Calls P e.f (e.args.map (γ ρ s)).toArray w fun x w' => x = .returned (γ ρ s e.res) ∧ Below w.heap.size w w'
def conL : List Ent → FuncId → List AV → Option AV
  | [], _, _ => none
  | e :: l, f, args => if Nat.beq e.f f then (if e.args = args then some e.res else conL l f args) else conL l f args
theorem conL_ok {P : Program} {ρ : Nat → Int} {n0 : Nat} {w0 : World} : ∀ {l : List Ent}, (∀ e ∈ l, EntOkB P ρ n0 w0 e) → ∀ {f : FuncId} {args : List AV} {v : AV}, conL l f args = some v → EntOkB P ρ n0 w0 ⟨f, args, v⟩
  | [], _, f, args, v, h => by simp [conL] at h
  | e :: l, hl, f, args, v, h => by
    simp only [conL] at h
    have rest : conL l f args = some v → EntOkB P ρ n0 w0 ⟨f, args, v⟩ := conL_ok (l := l) fun e he => hl e (List.mem_cons_of_mem _ he)
    split at h
    · rename_i hf
      split at h
      · rename_i ha
        cases h
        have := hl e List.mem_cons_self
        obtain ⟨f', args', v'⟩ := e
        simp only at hf ha
        subst ha
        rw [Nat.eq_of_beq_eq_true hf] at this
        exact this
      · exact rest h
    · exact rest h
/-- A contract that makes one block that stays: its cells. -/
structure EntN where
  f : FuncId
  args : List AV
  res : Nat → AV
  cs : List CV
def EntNOk (P : Program) (ρ : Nat → Int) (e : EntN) : Prop :=
  ∀ (s : Nat → Nat) (w : World) (n : Nat), Calls P e.f (e.args.map (γ ρ s)).toArray w (ConPost ρ s n w (e.res n) (some e.cs))
def conN : List EntN → FuncId → List AV → Nat → Option (AV × Option (List CV))
  | [], _, _, _ => none
  | e :: l, f, args, n => if Nat.beq e.f f then (if e.args = args then some (e.res n, some e.cs) else conN l f args n) else conN l f args n
def conT (L : List Ent) (N : List EntN) (f : FuncId) (args : List AV) (n : Nat) : Option (AV × Option (List CV)) :=
  match conL L f args with
  | some v => some (v, none)
  | none => conN N f args n
theorem conT_ok {P : Program} {ρ : Nat → Int} {n0 : Nat} {w0 : World} {L : List Ent} {N : List EntN} (hL : ∀ e ∈ L, EntOkB P ρ n0 w0 e) (hN : ∀ e ∈ N, EntNOk P ρ e) (op : Op → List AV → Option AV) : TabCon P ρ n0 w0 ⟨op, conT L N⟩ := by
  intro f args n v new h s w hb
  simp only [conT] at h
  split at h
  · rename_i u hu
    cases h
    exact conL_ok hL hu s w hb
  · revert h
    induction N with
    | nil => intro h; simp [conN] at h
    | cons e N ih =>
      intro h
      simp only [conN] at h
      have rest := ih fun e he => hN e (List.mem_cons_of_mem _ he)
      split at h
      · rename_i hf
        split at h
        · rename_i ha
          cases h
          have := hN e List.mem_cons_self s w n
          rw [Nat.eq_of_beq_eq_true hf, ha] at this
          exact this
        · exact rest h
      · exact rest h

/-- The table from lists. -/
def tab (P : Program) (F : Facts) (E : List (TypeId × Nat)) (L : List Ent) (N : List EntN) : Tab := ⟨opT P F E, conT L N⟩
/-- **A function, run over lists of facts and contracts.** -/
theorem calls_runM {P : Program} {ρ : Nat → Int} {F : Facts} {E : List (TypeId × Nat)} {L : List Ent} {N : List EntN} {d : Nat} {m0 : Mem} {f : FuncId} {args : List AV} {v : AV} {s : Nat → Nat} {w : World}
    (h : runM P (tab P F E L N) d m0 f args = some v) (hF : FactsOk ρ F) (hE : ∀ e ∈ E, EqOk P e.1 e.2) (hL : ∀ e ∈ L, EntOkB P ρ w.heap.size w e) (hN : ∀ e ∈ N, EntNOk P ρ e) (hargs : args.all (AV.wf m0) = true) (hr : Rel ρ w.heap.size w s m0 w) :
    Calls P f (args.map (γ ρ s)).toArray w fun e w' => (∃ s', e = .returned (γ ρ s' v)) ∧ Below w.heap.size w w' :=
  run_okM (opT_ok hF hE _) (conT_ok hL hN _) h (fun u hu => List.all_eq_true.1 hargs u hu) hr
theorem calls_run {P : Program} {ρ : Nat → Int} {F : Facts} {E : List (TypeId × Nat)} {L : List Ent} {N : List EntN} {d : Nat} {f : FuncId} {args : List AV} {v : AV}
    (h : runA P (tab P F E L N) d f args = some v) (hF : FactsOk ρ F) (hE : ∀ e ∈ E, EqOk P e.1 e.2) (hL : ∀ e ∈ L, EntOk P ρ e) (hN : ∀ e ∈ N, EntNOk P ρ e) (hargs : args.all (AV.wf []) = true) (w : World) :
    Calls P f (args.map (γ ρ s0)).toArray w fun e w' => (∃ s', e = .returned (γ ρ s' v)) ∧ Below w.heap.size w w' :=
  run_ok (opT_ok hF hE _) (conT_ok (fun e he s w _ => hL e he s w) hN _) h (fun u hu => List.all_eq_true.1 hargs u hu)

end Go.Proofs.Ytpdaigenffecmaa
