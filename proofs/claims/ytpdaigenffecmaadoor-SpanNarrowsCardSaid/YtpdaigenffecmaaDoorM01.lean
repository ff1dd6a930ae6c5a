/-
  An executor of the program's code over a known part of the memory: its words. The executor is right: values, frames, operations that change nothing. The executor is right: operations that change nothing.
-/
import Derived.WalkKit
import Derived.ControlIn
import Derived.Scope
import Derived.Deep.RegionHeld
import Derived.KernelRfl
set_option linter.all false
namespace Go.Proofs.YtpdaigenffecmaaDoor
open Go Go.RowKit

/-! ### Values as the executor knows them: numbers by letter or as they are; blocks by names of its own -/
inductive AI where
  | lit (i : Int)
  | sym (n : Nat)
  deriving DecidableEq
inductive CV where
  | int (k : IntKind) (x : AI)
  | bool (b : Bool)
  | ptr (b off : Nat)
  | nilp
  | func (f : FuncId) (first caps : List (Nat × Nat))
  | slice (b off len cap : Nat)
  | niliface
  | nilf
  | nils
  | bsym (n : Nat)
  deriving DecidableEq
inductive TV where
  | one (c : CV)
  | agg (l : List CV)
  deriving DecidableEq
inductive AV where
  | v (t : TV)
  | tup (l : List TV)
  deriving DecidableEq

def γI (ρ : Nat → Int) : AI → Int
  | .lit i => i
  | .sym n => ρ n
def γP (s : Nat → Nat) (p : Nat × Nat) : Value := .pointer (some ⟨s p.1, p.2, none⟩)
def γC (ρ : Nat → Int) (s : Nat → Nat) : CV → Value
  | .int k x => .int k (γI ρ x)
  | .bool b => .bool b
  | .ptr b o => .pointer (some ⟨s b, o, none⟩)
  | .nilp => .pointer none
  | .func f a c => .func (.func f) (a.map (γP s)).toArray (c.map (γP s)).toArray
  | .slice b o l c => .slice (some ⟨s b, o, none⟩) l c
  | .niliface => .nilIface
  | .nilf => .nilFunc
  | .nils => .slice none 0 0
  | .bsym n => .bool (decide (ρ n ≠ 0))
def γT (ρ : Nat → Int) (s : Nat → Nat) : TV → Value
  | .one c => γC ρ s c
  | .agg l => .agg (l.map (γC ρ s)).toArray
def γ (ρ : Nat → Int) (s : Nat → Nat) : AV → Value
  | .v t => γT ρ s t
  | .tup l => .tuple (l.map (γT ρ s)).toArray

/-! ### The memory that is known -/
structure Blk where
  name : Nat
  wr : Bool
  cs : List CV
  deriving DecidableEq
abbrev Mem := List Blk
def Mem.get : Mem → Nat → Option Blk
  | [], _ => none
  | x :: m, b => if Nat.beq x.name b then some x else Mem.get m b
def Mem.put : Mem → Blk → Mem
  | [], y => [y]
  | x :: m, y => if Nat.beq x.name y.name then y :: m else if Nat.blt x.name y.name then y :: x :: m else x :: Mem.put m y

def TV.cells : TV → List CV
  | .one c => [c]
  | .agg l => l
/-! ### Values that name known blocks only -/
/-- Known, or a package's variable (its name: 1000000 and its number). -/
def Mem.has (m : Mem) (b : Nat) : Bool := if Nat.ble 1000000 b then true else (m.get b).isSome
def CV.wf (m : Mem) : CV → Bool
  | .ptr b _ => m.has b
  | .func _ a c => a.all (fun p => m.has p.1) && c.all (fun p => m.has p.1)
  | .slice b _ _ _ => m.has b
  | _ => true
def TV.wf (m : Mem) : TV → Bool
  | .one c => c.wf m
  | .agg l => l.all (CV.wf m)
def AV.wf (m : Mem) : AV → Bool
  | .v t => t.wf m
  | .tup l => l.all (TV.wf m)

/-! ### What the executor asks of the types -/
def aggB (P : Program) (t : TypeId) : Option Bool :=
  match P.underlying t with
  | some (.struct _) => some true
  | some (.array _ _) => some true
  | some _ => some false
  | none => none
def sizeB (P : Program) (t : TypeId) : Option Nat := (P.info? t).map (·.size)
def sizesB (P : Program) : List Field → Option (List (Nat × Nat))
  | [] => some []
  | f :: l => match sizeB P f.type, sizesB P l with
    | some n, some r => some ((f.offset, n) :: r)
    | _, _ => none

def reifyC : Value → Option CV
  | .int k n => some (.int k (.lit n))
  | .bool b => some (.bool b)
  | .pointer none => some .nilp
  | .nilIface => some .niliface
  | .nilFunc => some .nilf
  | .slice none 0 0 => some .nils
  | _ => none
def reifyL : List Value → Option (List CV)
  | [] => some []
  | v :: l => match reifyC v, reifyL l with
    | some c, some r => some (c :: r)
    | _, _ => none
def reifyT : Value → Option TV
  | .agg cs => (reifyL cs.toList).map .agg
  | v => (reifyC v).map .one

/-! ### Frames: a tree of ten levels, by the bits of a slot's number -/
def nilA : AV := .tup []
inductive Fr where
  | nil
  | leaf (v : AV)
  | bin (l r : Fr)
  deriving DecidableEq
def Fr.get : Nat → Fr → Nat → AV
  | 0, .leaf v, _ => v
  | 0, _, _ => nilA
  | k + 1, .bin l r, i => if Nat.beq (Nat.mod i 2) 0 then Fr.get k l (Nat.div i 2) else Fr.get k r (Nat.div i 2)
  | _ + 1, _, _ => nilA
def Fr.set : Nat → Fr → Nat → AV → Fr
  | 0, _, _, v => .leaf v
  | k + 1, .bin l r, i, v => if Nat.beq (Nat.mod i 2) 0 then .bin (Fr.set k l (Nat.div i 2) v) r else .bin l (Fr.set k r (Nat.div i 2) v)
  | k + 1, _, i, v => if Nat.beq (Nat.mod i 2) 0 then .bin (Fr.set k .nil (Nat.div i 2) v) .nil else .bin .nil (Fr.set k .nil (Nat.div i 2) v)
structure Frm where
  n : Nat
  t : Fr
  deriving DecidableEq
def Frm.get? (fr : Frm) (i : Nat) : Option AV := if Nat.blt i fr.n && Nat.blt i 1024 then some (fr.t.get 10 i) else none
def Fr.setAll : Fr → Nat → List AV → Fr
  | t, _, [] => t
  | t, i, v :: l => Fr.setAll (t.set 10 i v) (i + 1) l
def Frm.of (args : List AV) (n : Nat) : Frm := ⟨args.length + (n - args.length), Fr.setAll .nil 0 args⟩

def splice (cs : List CV) (off : Nat) (vs : List CV) : List CV := cs.take off ++ vs ++ cs.drop (off + vs.length)
def evalA (fr : Frm) : Operand → Option AV
  | .tmp t => fr.get? t
  | .const v => (reifyT v).map .v
  | .global g => some (.v (.one (.ptr (1000000 + g) 0)))
  | .func f => some (.v (.one (.func f [] [])))
def evalT (fr : Frm) (x : Operand) : Option TV :=
  match evalA fr x with
  | some (.v t) => some t
  | _ => none
def evalC (fr : Frm) (x : Operand) : Option CV :=
  match evalA fr x with
  | some (.v (.one c)) => some c
  | _ => none
def evalL (fr : Frm) : List Operand → Option (List AV)
  | [] => some []
  | x :: l => match evalA fr x, evalL fr l with
    | some v, some r => some (v :: r)
    | _, _ => none
def ptrsOf : List AV → Option (List (Nat × Nat))
  | [] => some []
  | .v (.one (.ptr b o)) :: l => (ptrsOf l).map ((b, o) :: ·)
  | _ => none

def partA (P : Program) (t : TypeId) (cs : List CV) (off : Nat) : Option TV :=
  match aggB P t with
  | some true => match sizeB P t with
    | some n => some (.agg ((cs.drop off).take n))
    | none => none
  | some false => (cs[off]?).map .one
  | none => none
def loadA (P : Program) (m : Mem) (t : TypeId) (b off : Nat) : Option TV :=
  match m.get b with
  | none => none
  | some x => match aggB P t with
    | some true => match sizeB P t with
      | some n => if Nat.ble (off + n) x.cs.length then some (.agg ((x.cs.drop off).take n)) else none
      | none => none
    | some false => (x.cs[off]?).map .one
    | none => none
def storeA (P : Program) (m : Mem) (t : TypeId) (b off : Nat) (v : TV) : Option Mem :=
  match m.get b with
  | none => none
  | some x => match sizeB P t with
    | some n => if x.wr && Nat.beq v.cells.length n && Nat.ble (off + n) x.cs.length then some (m.put ⟨b, true, splice x.cs off v.cells⟩) else none
    | none => none
def fillA (place : Nat → Option (Nat × Nat)) (cells : List CV) : List (Nat × TV) → Option (List CV)
  | [] => some cells
  | (i, v) :: rest => match place i with
    | none => none
    | some (off, size) => if Nat.beq v.cells.length size && Nat.ble (off + size) cells.length then fillA place (splice cells off v.cells) rest else none
def zeroA (P : Program) (t : TypeId) : Option TV :=
  match P.info? t with
  | some i => match i.zero with
    | some z => reifyT z
    | none => none
  | none => none
def evalParts (fr : Frm) : List (Nat × Operand) → Option (List (Nat × TV))
  | [] => some []
  | (i, x) :: l => match evalT fr x, evalParts fr l with
    | some v, some r => some ((i, v) :: r)
    | _, _ => none
def buildA (P : Program) (t : TypeId) (parts : List (Nat × TV)) : Option TV :=
  match zeroA P t, P.underlying t with
  | some z, some (.struct fs) => match sizesB P fs.toList with
    | some pl => (fillA (fun i => pl[i]?) z.cells parts).map .agg
    | none => none
  | some z, some (.array _ e) => match sizeB P e with
    | some n => (fillA (fun i => some (i * n, n)) z.cells parts).map .agg
    | none => none
  | _, _ => none
def indexA (P : Program) (t : TypeId) (cs : List CV) (i : Int) : Option TV :=
  match P.underlying t with
  | some (.array len e) => match sizeB P e with
    | some n => if 0 ≤ i ∧ i < len then partA P e cs (i.toNat * n) else none
    | none => none
  | _ => none
def fieldA (P : Program) (t : TypeId) (cs : List CV) (f : Nat) : Option TV :=
  match P.underlying t with
  | some (.struct fs) => match fs[f]? with
    | some x => partA P x.type cs x.offset
    | none => none
  | _ => none

/-! ### Operations -/
structure Tab where
  op : Op → List AV → Option AV
  con : FuncId → List AV → Nat → Option (AV × Option (List CV))
/-- A bound of a slicing: a number as it is, not below 0; or none. -/
def boundA (fr : Frm) : Option Operand → Option (Option Nat)
  | none => some none
  | some x => match evalC fr x with
    | some (.int _ (.lit i)) => if 0 ≤ i then some (some i.toNat) else none
    | _ => none
def pureA (P : Program) (T : Tab) (m : Mem) (fr : Frm) (o : Op) : Option AV :=
  match o with
  | .move x => evalA fr x
  | .assign x => evalA fr x
  | .pick c a b => match evalC fr c with
    | some (.bool true) => evalA fr a
    | some (.bool false) => evalA fr b
    | _ => none
  | .load t a => match evalC fr a with
    | some (.ptr b off) => (loadA P m t b off).map .v
    | _ => none
  | .nilCheck x => match evalC fr x with
    | some (.ptr b o) => some (.v (.one (.ptr b o)))
    | some (.func f a c) => some (.v (.one (.func f a c)))
    | some (.slice b o l c) => some (.v (.one (.slice b o l c)))
    | _ => none
  | .fieldAddr t x f => match evalC fr x, P.underlying t with
    | some (.ptr b o), some (.struct fs) => match fs[f]? with
      | some y => match sizeB P y.type with
        | some (_ + 1) => some (.v (.one (.ptr b (o + y.offset))))
        | _ => none
      | none => none
    | _, _ => none
  | .field t x f => match evalT fr x with
    | some (.agg cs) => (fieldA P t cs f).map .v
    | _ => none
  | .indexAddr t x ix => match evalC fr x, evalC fr ix, P.underlying t with
    | some (.ptr b o), some (.int _ (.lit i)), some (.array len e) => match sizeB P e with
      | some n => if 0 ≤ i ∧ i < len then some (.v (.one (.ptr b (o + i.toNat * n)))) else none
      | none => none
    | some (.slice b o len _), some (.int _ (.lit i)), some (.slice e) => match sizeB P e with
      | some n => if 0 ≤ i ∧ i < len then some (.v (.one (.ptr b (o + i.toNat * n)))) else none
      | none => none
    | _, _, _ => none
  | .index t x ix => match evalT fr x, evalC fr ix with
    | some (.agg cs), some (.int _ (.lit i)) => (indexA P t cs i).map .v
    | _, _ => none
  | .extract x i => match evalA fr x with
    | some (.tup l) => (l[i]?).map .v
    | _ => none
  | .build t parts => match evalParts fr parts.toList with
    | some ps => (buildA P t ps).map .v
    | none => none
  | .makeFunc (.func f) first caps => match evalL fr first.toList, evalL fr caps.toList with
    | some a, some c => match ptrsOf a, ptrsOf c with
      | some a, some c => some (.v (.one (.func f a c)))
      | _, _ => none
    | _, _ => none
  | .slice t x lo hi mx => match evalC fr x, P.underlying t, boundA fr lo, boundA fr hi, mx with
    | some (.slice b o len cap), some (.slice e), some l, some h, none => match sizeB P e with
      | some n =>
        let h := h.getD len
        let l := l.getD 0
        if l ≤ h ∧ h ≤ cap ∧ l < cap then some (.v (.one (.slice b (o + l * n) (h - l) (cap - l)))) else none
      | none => none
    | _, _, _, _, _ => none
  | .unOp .not _ x => match evalC fr x with
    | some (.bool b) => some (.v (.one (.bool (!b))))
    | _ => none
  | .alloc _ => none
  | .box _ _ => none
  | .buildSlice _ _ _ => none
  | .store _ _ _ => none
  | o => match evalL fr o.operands.toList with
    | some vs => T.op o vs
    | none => none

/-- What makes a block, or writes: the value, the memory. -/
def memA (P : Program) (m : Mem) (fr : Frm) (nm : Nat) (o : Op) : Option (AV × Mem) :=
  if m.has nm then none else
  match o with
  | .alloc t => match zeroA P t with
    | some z => if z.cells.all (CV.wf m) then some (.v (.one (.ptr nm 0)), m.put ⟨nm, true, z.cells⟩) else none
    | none => none
  | .box _ x => match evalT fr x with
    | some z => if z.cells.all (CV.wf m) then some (.v (.one (.ptr nm 0)), m.put ⟨nm, true, z.cells⟩) else none
    | none => none
  | .buildSlice t len parts => match P.underlying t, evalParts fr parts.toList with
    | some (.slice e), some ps => match sizeB P e, zeroA P e with
      | some n, some z =>
        if Nat.blt 0 (len * n) && Nat.ble (len * n) 4096 && Nat.beq z.cells.length n then
          match fillA (fun i => some (i * n, n)) ((List.range (len * n)).map fun i => z.cells.getD (i % n) .niliface) ps with
          | some cs => if cs.all (CV.wf m) then some (.v (.one (.slice nm 0 len len)), m.put ⟨nm, true, cs⟩) else none
          | none => none
        else none
      | _, _ => none
    | _, _ => none
  | .store t a x => match evalC fr a, evalT fr x with
    | some (.ptr b off), some v => if v.cells.all (CV.wf m) then (storeA P m t b off v).map fun m' => (nilA, m') else none
    | _, _ => none
  | _ => none

structure St where
  fr : Frm
  m : Mem
  n : Nat
  deriving DecidableEq
abbrev CallFn := FuncId → List AV → Mem → Nat → Option (AV × Mem × Nat)
def ptrsA (l : List (Nat × Nat)) : List AV := l.map fun p => .v (.one (.ptr p.1 p.2))
def targetA (fr : Frm) (c : Call) : Option (FuncId × List AV) :=
  match c.callee with
  | .value f => match evalC fr f, evalL fr c.args.toList with
    | some (.func g a cs), some vs => some (g, ptrsA a ++ vs ++ ptrsA cs)
    | _, _ => none
  | _ => none
def enterable (P : Program) (f : FuncId) : Bool :=
  match P.funcs[f]? with
  | some fn => fn.body.isSome && !(fn.name == "runtime.NumGoroutine")
  | none => false
def putA (st : St) (dst : Option Tmp) (v : AV) : Option St :=
  if v.wf st.m then
    match dst with
    | none => some st
    | some d => if Nat.blt d 1024 && Nat.ble st.fr.n 1024 then some { st with fr := ⟨st.fr.n, st.fr.t.set 10 d v⟩ } else none
  else none
/-- One operation that is wanted; nm: the name for a block that it makes. -/
def stepA (P : Program) (T : Tab) (call : CallFn) (nm : Nat) (st : St) (o : Oper) : Option St :=
  match pureA P T st.m st.fr o.op with
  | some v => putA st o.dst v
  | none => match o.op with
    | .call c => match targetA st.fr c with
      | some (f, args) => if enterable P f then
          match call f args st.m st.n with
          | some (v, m, n) => putA { st with m, n } o.dst v
          | none => none
        else none
      | none => none
    | op => match memA P st.m st.fr nm op with
      | some (v, m) => putA { st with m } o.dst v
      | none => none

def yieldedA (ops : Array Oper) (fr : Frm) (j : Nat) : Option Bool :=
  match ((ops[j]?).bind (·.dst)).bind (fr.get? ·) with
  | some (.v (.one (.bool b))) => some b
  | _ => none
def wantedA (ops : Array Oper) (fr : Frm) (o : Oper) : Bool := Region.wanted o (yieldedA ops fr)
/-- What guards it is no letter. -/
def sureA (ops : Array Oper) (fr : Frm) (o : Oper) : Bool :=
  match o.guard with
  | none => true
  | some (j, _) => match ((ops[j]?).bind (·.dst)).bind (fr.get? ·) with
    | some (.v (.one (.bsym _))) => false
    | _ => true

/-- A region in the order of its text. -/
def listA (P : Program) (T : Tab) (call : CallFn) (ops : Array Oper) : List Oper → St → Option St
  | [], st => some st
  | o :: l, st =>
    if !sureA ops st.fr o then none else
    if wantedA ops st.fr o then
      match stepA P T call st.n { st with n := st.n + 1 } o with
      | some st => listA P T call ops l st
      | none => none
    else match putA st o.dst nilA with
      | some st => listA P T call ops l st
      | none => none

/-! ### A region that draws its order -/
def definer (l : List Oper) (t : Tmp) : Option Op :=
  match l with
  | [] => none
  | o :: l => match o.dst with
    | some d => if Nat.beq d t then some o.op else definer l t
    | none => definer l t
def rootOf (ops : List Oper) (fr : Frm) : Nat → Operand → Option Nat
  | 0, _ => none
  | k + 1, .tmp t => match definer ops t with
    | some (.fieldAddr _ x _) => rootOf ops fr k x
    | some (.indexAddr _ x _) => rootOf ops fr k x
    | some (.nilCheck x) => rootOf ops fr k x
    | some (.move x) => rootOf ops fr k x
    | some _ => none
    | none => match fr.get? t with
      | some (.v (.one (.ptr b _))) => some b
      | some (.v (.one (.slice b _ _ _))) => some b
      | _ => none
  | _ + 1, .global g => some (1000000 + g)
  | _ + 1, _ => none
def rootsOf (ops : List Oper) (fr : Frm) (loads : Bool) : List Oper → List Nat
  | [] => []
  | o :: l => match o.op, loads with
    | .load _ a, true => match rootOf ops fr 8 a with
      | some b => b :: rootsOf ops fr loads l
      | none => rootsOf ops fr loads l
    | .store _ a _, false => match rootOf ops fr 8 a with
      | some b => b :: rootsOf ops fr loads l
      | none => rootsOf ops fr loads l
    | _, _ => rootsOf ops fr loads l
def heldA (ops : Array Oper) (st : St) : Mem :=
  let ls := rootsOf ops.toList st.fr true ops.toList
  let ss := rootsOf ops.toList st.fr false ops.toList
  st.m.filter fun x => ls.any (Nat.beq x.name ·) && !(ss.any (Nat.beq x.name ·))
def subM (a m : Mem) : Bool := a.all fun x => match m.get x.name with
  | some y => decide (y = x)
  | none => false
def bitA (L i : Nat) : Bool := Nat.beq (Nat.land (Nat.shiftRight L i) 1) 1
def edgesA : List Edge → List Nat
  | [] => []
  | e :: l => if Region.binds .any e then e.on :: edgesA l else edgesA l
def edgesOf (ops : List Oper) : List (List Nat) := ops.map fun o => edgesA o.after.toList
def allBits (L : Nat) : List Nat → Bool
  | [] => true
  | i :: l => if bitA L i then allBits L l else false
/-- Those that may come up. -/
def readyA (L : Nat) : Nat → List (List Nat) → List Nat
  | _, [] => []
  | i, e :: l => if bitA L i then readyA L (i + 1) l else if allBits L e then i :: readyA L (i + 1) l else readyA L (i + 1) l
/-- What stands in the way of an operation's being taken first: none that is not listed. -/
def freeA (ops : Array Oper) (oi : Oper) (i : Nat) (L : Nat) : Nat → List Oper → Bool
  | _, [] => true
  | j, o :: l => (Nat.beq j i || bitA L j || o.after.any (fun e => Region.binds .any e && e.on == i) || oi.apart ops o) && freeA ops oi i L (j + 1) l
/-- The first of those that may come up that may be taken first: its number and value. -/
def takeA (P : Program) (T : Tab) (ops : Array Oper) (mS : Mem) (L : Nat) (fr : Frm) : List Nat → Option (Nat × Oper × AV)
  | [] => none
  | i :: l => match ops[i]? with
    | none => takeA P T ops mS L fr l
    | some o =>
      if !sureA ops fr o then takeA P T ops mS L fr l else
      if wantedA ops fr o then
        match pureA P T mS fr o.op with
        | some v => if freeA ops o i L 0 ops.toList then some (i, o, v) else takeA P T ops mS L fr l
        | none => takeA P T ops mS L fr l
      else if freeA ops o i L 0 ops.toList then some (i, o, nilA) else takeA P T ops mS L fr l
def allSame (f : Nat → Option St) : List Nat → Option St
  | [] => none
  | i :: l => match l with
    | [] => f i
    | _ :: _ => match f i, allSame f l with
      | some a, some b => if a = b then some a else none
      | _, _ => none
def anyA (P : Program) (T : Tab) (call : CallFn) (ops : Array Oper) (es : List (List Nat)) (mS : Mem) (b0 : Nat) : Nat → Nat → St → Option St
  | 0, _, _ => none
  | k + 1, L, st =>
    let rs := readyA L 0 es
    match rs with
    | [] => some st
    | _ :: _ => match takeA P T ops mS L st.fr rs with
      | some (i, o, v) => match putA st o.dst v with
        | some st => anyA P T call ops es mS b0 k (Nat.lor L (Nat.shiftLeft 1 i)) st
        | none => none
      | none => allSame (fun i => match ops[i]? with
        | none => none
        | some o =>
          if !sureA ops st.fr o then none else
          if wantedA ops st.fr o then
            match stepA P T call (b0 + i) st o with
            | some st => if subM mS st.m then anyA P T call ops es mS b0 k (Nat.lor L (Nat.shiftLeft 1 i)) st else none
            | none => none
          else match putA st o.dst nilA with
            | some st => anyA P T call ops es mS b0 k (Nat.lor L (Nat.shiftLeft 1 i)) st
            | none => none) rs

/-! ### Code -/
inductive XX where
  | nor
  | exit (id : Nat)
  | ret
def XX.toExit : XX → Exit
  | .nor => .normal
  | .exit i => .exit i
  | .ret => .ret
def loopA (f : St → Option (XX × St)) : Nat → St → Option (XX × St)
  | 0, _ => none
  | n + 1, st => match f st with
    | some (.nor, st) => loopA f n st
    | r => r
def execA (P : Program) (T : Tab) (call : CallFn) : Code → St → Option (XX × St)
  | .skip, st => some (.nor, st)
  | .label _, st => some (.nor, st)
  | .region _ ops false, st => (listA P T call ops ops.toList st).map fun st => (.nor, st)
  | .region _ ops true, st =>
    if Region.noSelect ops && P.follows .mixedOrders then
      let mS := heldA ops st
      if subM mS st.m then (anyA P T call ops (edgesOf ops.toList) mS st.n (ops.size + 1) 0 { st with n := st.n + ops.size }).map fun st => (.nor, st) else none
    else none
  | .seq a b, st => match execA P T call a st with
    | some (.nor, st) => execA P T call b st
    | r => r
  | .cond c a b, st => match evalC st.fr c with
    | some (.bool true) => execA P T call a st
    | some (.bool false) => execA P T call b st
    | _ => none
  | .block id c, st => match execA P T call c st with
    | some (.exit i, st) => if i = id then some (.nor, st) else some (.exit i, st)
    | r => r
  | .loop c, st => loopA (execA P T call c) 1000 st
  | .exit id, st => some (.exit id, st)
  | .scope c, st => execA P T call c st
  | .ret, st => some (.ret, st)
  | _, _ => none

def resultsA (P : Program) (st : St) : List ResultVar → Option (List TV)
  | [] => some []
  | .tmp t :: l => match st.fr.get? t, resultsA P st l with
    | some (.v x), some r => some (x :: r)
    | _, _ => none
  | .cell a t :: l => match st.fr.get? a, resultsA P st l with
    | some (.v (.one (.ptr b o))), some r => (loadA P st.m t b o).map (· :: r)
    | _, _ => none
def packA : List TV → AV
  | [x] => .v x
  | l => .tup l
/-- A call: by its contract, else by its body; d: how deep bodies are entered. -/
def callA (P : Program) (T : Tab) : Nat → CallFn
  | 0, _, _, _, _ => none
  | d + 1, f, args, m, n =>
    match T.con f args n with
    | some (v, none) => some (v, m, n)
    | some (v, some cs) => if m.has n then none else if cs.all (CV.wf m) then some (v, m.put ⟨n, false, cs⟩, n + 1) else none
    | none => match P.funcs[f]? with
      | some fn => match fn.body with
        | some c =>
          if Nat.ble (args.length + (fn.ntmps - args.length)) 1024 then
          match execA P T (callA P T d) c ⟨Frm.of args fn.ntmps, m, n⟩ with
          | some (.nor, st) => (resultsA P st fn.results.toList).map fun r => (packA r, st.m, st.n)
          | some (.ret, st) => (resultsA P st fn.results.toList).map fun r => (packA r, st.m, st.n)
          | _ => none
          else none
        | none => none
      | none => none
/-- A function from nothing: what it answers. -/
def runA (P : Program) (T : Tab) (d : Nat) (f : FuncId) (args : List AV) : Option AV :=
  (callA P T d f args [] 0).map (·.1)
/-- A function over what is known of the memory. -/
def runM (P : Program) (T : Tab) (d : Nat) (m : Mem) (f : FuncId) (args : List AV) : Option AV :=
  (callA P T d f args m 0).map (·.1)

end Go.Proofs.YtpdaigenffecmaaDoor

namespace Go.Proofs.YtpdaigenffecmaaDoor
open Go Go.RowKit

section
variable {P : Program} {ρ : Nat → Int} {s s' : Nat → Nat} {m m' : Mem} {w w' : World}

/-! ### Names -/
def Ext (m : Mem) (s s' : Nat → Nat) : Prop := ∀ b, m.has b = true → s' b = s b
theorem Ext.refl : Ext m s s := fun _ _ => rfl
def Grows (m m' : Mem) : Prop := ∀ b, m.has b = true → m'.has b = true
theorem Grows.refl : Grows m m := fun _ h => h
theorem Grows.trans {m'' : Mem} (h : Grows m m') (k : Grows m' m'') : Grows m m'' := fun b hb => k b (h b hb)
theorem Ext.trans {s'' : Nat → Nat} (h : Ext m s s') (g : Grows m m') (k : Ext m' s' s'') : Ext m s s'' := fun b hb => (k b (g b hb)).trans (h b hb)

theorem γP_ext (h : Ext m s s') {p : Nat × Nat} (hp : m.has p.1 = true) : γP s' p = γP s p := by simp [γP, h p.1 hp]
theorem γPs_ext (h : Ext m s s') {l : List (Nat × Nat)} (hl : l.all (fun p => m.has p.1) = true) : l.map (γP s') = l.map (γP s) :=
  List.map_congr_left fun p hp => γP_ext h (List.all_eq_true.1 hl p hp)
theorem γC_ext (h : Ext m s s') {c : CV} (hc : c.wf m = true) : γC ρ s' c = γC ρ s c := by
  cases c with
  | ptr b o => simp [γC, h b hc]
  | slice b o l k => simp [γC, h b hc]
  | func f a c =>
    simp only [CV.wf, Bool.and_eq_true] at hc
    simp only [γC, γPs_ext h hc.1, γPs_ext h hc.2]
  | _ => rfl
theorem γCs_ext (h : Ext m s s') {l : List CV} (hl : l.all (CV.wf m) = true) : l.map (γC ρ s') = l.map (γC ρ s) :=
  List.map_congr_left fun c hc => γC_ext h (List.all_eq_true.1 hl c hc)
theorem γT_ext (h : Ext m s s') {t : TV} (ht : t.wf m = true) : γT ρ s' t = γT ρ s t := by
  cases t with
  | one c => exact γC_ext h ht
  | agg l => simp only [γT, γCs_ext h ht]
theorem γ_ext (h : Ext m s s') {v : AV} (hv : v.wf m = true) : γ ρ s' v = γ ρ s v := by
  cases v with
  | v t => exact γT_ext h hv
  | tup l =>
    have : l.map (γT ρ s') = l.map (γT ρ s) := List.map_congr_left fun c hc => γT_ext h (List.all_eq_true.1 hv c hc)
    simp only [γ, this]
theorem γs_ext (h : Ext m s s') {l : List AV} (hl : ∀ v ∈ l, v.wf m = true) : l.map (γ ρ s') = l.map (γ ρ s) :=
  List.map_congr_left fun v hv => γ_ext h (hl v hv)

theorem CV.wf_grows (g : Grows m m') {c : CV} (h : c.wf m = true) : c.wf m' = true := by
  cases c with
  | ptr b o => exact g b h
  | slice b o l k => exact g b h
  | func f a c =>
    simp only [CV.wf, Bool.and_eq_true, List.all_eq_true] at h ⊢
    exact ⟨fun p hp => g _ (h.1 p hp), fun p hp => g _ (h.2 p hp)⟩
  | _ => rfl
theorem CVs_wf_grows (g : Grows m m') {l : List CV} (h : l.all (CV.wf m) = true) : l.all (CV.wf m') = true := by
  rw [List.all_eq_true] at *
  exact fun c hc => CV.wf_grows g (h c hc)
theorem TV.wf_grows (g : Grows m m') {t : TV} (h : t.wf m = true) : t.wf m' = true := by
  cases t with
  | one c => exact CV.wf_grows g h
  | agg l => exact CVs_wf_grows g h
theorem AV.wf_grows (g : Grows m m') {v : AV} (h : v.wf m = true) : v.wf m' = true := by
  cases v with
  | v t => exact TV.wf_grows g h
  | tup l =>
    simp only [AV.wf, List.all_eq_true] at *
    exact fun c hc => TV.wf_grows g (h c hc)

/-! ### The memory's words -/
theorem Mem.get_name {b : Nat} {x : Blk} : ∀ {m : Mem}, m.get b = some x → x.name = b
  | [], h => by simp [Mem.get] at h
  | y :: m, h => by
    simp only [Mem.get] at h
    split at h
    · rename_i e; cases h; exact Nat.eq_of_beq_eq_true e
    · exact Mem.get_name h
theorem Mem.get_put (y : Blk) (b : Nat) : ∀ m : Mem, (m.put y).get b = if y.name = b then some y else m.get b
  | [] => by
    simp only [Mem.put, Mem.get]
    by_cases h : y.name = b
    · rw [if_pos h, if_pos (by simp [h])]
    · rw [if_neg h, if_neg (by simp [h])]
  | x :: m => by
    have ih := Mem.get_put y b m
    have hx : ∀ a c : Nat, (Nat.beq a c = true) = (a = c) := fun a c => by simp
    simp only [Mem.put]
    by_cases h1 : x.name = y.name
    · rw [if_pos (by simp [h1])]
      simp only [Mem.get, hx, h1]
      split <;> simp_all
    · rw [if_neg (by simp [h1])]
      by_cases h2 : x.name < y.name
      · rw [if_pos (by simpa [Nat.blt_eq] using h2)]
        simp only [Mem.get, hx]
      · rw [if_neg (by simpa [Nat.blt_eq] using h2)]
        simp only [Mem.get, hx, ih]
        by_cases h3 : x.name = b
        · rw [if_pos h3, if_neg (by omega), if_pos h3]
        · rw [if_neg h3, if_neg h3]
theorem grows_put (m : Mem) (y : Blk) : Grows m (m.put y) := fun b h => by
  unfold Mem.has at *
  rw [Mem.get_put]
  by_cases hb : Nat.ble 1000000 b = true
  · rw [if_pos hb]
  · rw [if_neg hb] at h ⊢
    split
    · rfl
    · exact h

/-- The known cells lie in the world. -/
def Cells (ρ : Nat → Int) (s : Nat → Nat) (m : Mem) (w : World) : Prop :=
  ∀ b x, m.get b = some x → ∀ j c, x.cs[j]? = some c → w.cell? ⟨s b, j, none⟩ = some (γC ρ s c)

/-! ### Frames -/
def act (ρ : Nat → Int) (s : Nat → Nat) (fr : Frm) : Act := ⟨((List.range fr.n).map fun i => γ ρ s (fr.t.get 10 i)).toArray, []⟩

theorem reifyC_ok {v : Value} {c : CV} (h : reifyC v = some c) : γC ρ s c = v := by
  unfold reifyC at h
  split at h <;> first | (cases h; rfl) | cases h
theorem reifyL_ok : ∀ {l : List Value} {cs : List CV}, reifyL l = some cs → cs.map (γC ρ s) = l
  | [], cs, h => by simp [reifyL] at h; subst h; rfl
  | v :: l, cs, h => by
    simp only [reifyL] at h
    split at h
    · rename_i c r h1 h2
      cases h
      simp [reifyC_ok h1, reifyL_ok h2]
    · cases h
theorem reifyT_ok {v : Value} {t : TV} (h : reifyT v = some t) : γT ρ s t = v := by
  unfold reifyT at h
  split at h
  · rename_i cs
    cases hl : reifyL cs.toList with
    | none => simp [hl] at h
    | some l =>
      simp [hl] at h; subst h
      simp [γT, reifyL_ok hl]
  · cases hl : reifyC v with
    | none => simp [hl] at h
    | some l => simp [hl] at h; subst h; exact reifyC_ok hl

variable {fr : Frm}
theorem beq_true' {a b : Nat} : (Nat.beq a b = true) = (a = b) := by simp
theorem Fr.get_nil : ∀ k i, Fr.get k .nil i = nilA
  | 0, _ => rfl
  | _ + 1, _ => rfl
theorem Fr.get_set : ∀ (k : Nat) (t : Fr) (i j : Nat) (v : AV), i < 2 ^ k → j < 2 ^ k → (t.set k i v).get k j = if i = j then v else t.get k j
  | 0, t, i, j, v, hi, hj => by
    simp at hi hj; subst hi; subst hj
    cases t <;> rfl
  | k + 1, t, i, j, v, hi, hj => by
    have h1 : i / 2 < 2 ^ k := by rw [Nat.pow_succ] at hi; omega
    have h2 : j / 2 < 2 ^ k := by rw [Nat.pow_succ] at hj; omega
    have ih := fun t => Fr.get_set k t (i / 2) (j / 2) v h1 h2
    have e0 : ∀ (k : Nat) (l r : Fr) (i : Nat), Fr.get (k + 1) (.bin l r) i = if i % 2 = 0 then l.get k (i / 2) else r.get k (i / 2) := by
      intro k l r i
      show (if Nat.beq (i % 2) 0 then _ else _) = _
      simp only [beq_true']; rfl
    have e1 : ∀ (t : Fr), (∀ l r, t ≠ .bin l r) → Fr.get (k + 1) t j = nilA := by
      intro t ht; cases t with
      | nil => rfl
      | leaf v => rfl
      | bin l r => exact (ht l r rfl).elim
    have hs : ∀ t : Fr, t.set (k + 1) i v = match t with
        | .bin l r => if i % 2 = 0 then .bin (l.set k (i / 2) v) r else .bin l (r.set k (i / 2) v)
        | _ => if i % 2 = 0 then .bin (Fr.set k .nil (i / 2) v) .nil else .bin .nil (Fr.set k .nil (i / 2) v) := by
      intro t
      cases t with
      | bin l r => show (if Nat.beq (i % 2) 0 then _ else _) = _; simp only [beq_true']; rfl
      | nil => show (if Nat.beq (i % 2) 0 then _ else _) = _; simp only [beq_true']; rfl
      | leaf u => show (if Nat.beq (i % 2) 0 then _ else _) = _; simp only [beq_true']; rfl
    rw [hs]
    cases t with
    | bin l r =>
      simp only []
      by_cases hi2 : i % 2 = 0 <;> by_cases hj2 : j % 2 = 0
      · rw [if_pos hi2, e0, e0, if_pos hj2, if_pos hj2, ih]; congr 1; apply propext; constructor <;> omega
      · rw [if_pos hi2, e0, e0, if_neg hj2, if_neg hj2, if_neg (by omega)]
      · rw [if_neg hi2, e0, e0, if_pos hj2, if_pos hj2, if_neg (by omega)]
      · rw [if_neg hi2, e0, e0, if_neg hj2, if_neg hj2, ih]; congr 1; apply propext; constructor <;> omega
    | nil =>
      simp only []
      rw [e1 .nil (by simp)]
      by_cases hi2 : i % 2 = 0 <;> by_cases hj2 : j % 2 = 0
      · rw [if_pos hi2, e0, if_pos hj2, ih, Fr.get_nil]; congr 1; apply propext; constructor <;> omega
      · rw [if_pos hi2, e0, if_neg hj2, if_neg (by omega), Fr.get_nil]
      · rw [if_neg hi2, e0, if_pos hj2, if_neg (by omega), Fr.get_nil]
      · rw [if_neg hi2, e0, if_neg hj2, ih, Fr.get_nil]; congr 1; apply propext; constructor <;> omega
    | leaf u =>
      simp only []
      rw [e1 (.leaf u) (by simp)]
      by_cases hi2 : i % 2 = 0 <;> by_cases hj2 : j % 2 = 0
      · rw [if_pos hi2, e0, if_pos hj2, ih, Fr.get_nil]; congr 1; apply propext; constructor <;> omega
      · rw [if_pos hi2, e0, if_neg hj2, if_neg (by omega), Fr.get_nil]
      · rw [if_neg hi2, e0, if_pos hj2, if_neg (by omega), Fr.get_nil]
      · rw [if_neg hi2, e0, if_neg hj2, ih, Fr.get_nil]; congr 1; apply propext; constructor <;> omega
theorem get?_some {i : Nat} {v : AV} (h : fr.get? i = some v) : i < fr.n ∧ i < 1024 ∧ v = fr.t.get 10 i := by
  unfold Frm.get? at h
  split at h
  · rename_i hc
    simp only [Bool.and_eq_true, Nat.blt_eq] at hc
    cases h
    exact ⟨hc.1, hc.2, rfl⟩
  · cases h
theorem tmps_at {i : Nat} {v : AV} (h : fr.get? i = some v) : (act ρ s fr).tmps[i]? = some (γ ρ s v) := by
  obtain ⟨h1, h2, rfl⟩ := get?_some h
  simp [act, h1]
/-- The names of the package's variables. -/
def Gl (s : Nat → Nat) : Prop := ∀ g, s (1000000 + g) = g
theorem evalA_ok (hg : Gl s) {x : Operand} {v : AV} (h : evalA fr x = some v) : (act ρ s fr).eval x = γ ρ s v := by
  cases x with
  | tmp t =>
    simp only [evalA] at h
    simp [Act.eval, Array.getD_eq_getD_getElem?, tmps_at h]
  | const u =>
    simp only [evalA] at h
    cases hr : reifyT u with
    | none => simp [hr] at h
    | some t => simp [hr] at h; subst h; exact (reifyT_ok hr).symm
  | global g =>
    simp only [evalA] at h
    cases h
    show Value.pointer (some ⟨g, 0, none⟩) = .pointer (some ⟨s (1000000 + g), 0, none⟩)
    rw [hg g]
  | func f => simp only [evalA] at h; cases h; rfl
theorem evalT_ok (hg : Gl s) {x : Operand} {t : TV} (h : evalT fr x = some t) : (act ρ s fr).eval x = γT ρ s t := by
  unfold evalT at h
  split at h
  · rename_i e; cases h; exact evalA_ok hg e
  · cases h
theorem evalC_ok (hg : Gl s) {x : Operand} {c : CV} (h : evalC fr x = some c) : (act ρ s fr).eval x = γC ρ s c := by
  unfold evalC at h
  split at h
  · rename_i e; cases h; exact evalA_ok hg e
  · cases h
theorem evalL_ok (hg : Gl s) : ∀ {l : List Operand} {vs : List AV}, evalL fr l = some vs → l.map (act ρ s fr).eval = vs.map (γ ρ s)
  | [], vs, h => by simp [evalL] at h; subst h; rfl
  | x :: l, vs, h => by
    simp only [evalL] at h
    split at h
    · rename_i v r h1 h2
      cases h
      simp [evalA_ok hg h1, evalL_ok hg h2]
    · cases h
theorem evalParts_ok (hg : Gl s) : ∀ {l : List (Nat × Operand)} {ps : List (Nat × TV)}, evalParts fr l = some ps →
    l.map (fun p => (p.1, (act ρ s fr).eval p.2)) = ps.map (fun p => (p.1, γT ρ s p.2))
  | [], ps, h => by simp [evalParts] at h; subst h; rfl
  | (i, x) :: l, ps, h => by
    simp only [evalParts] at h
    split at h
    · rename_i v r h1 h2
      cases h
      simp [evalT_ok hg h1, evalParts_ok hg h2]
    · cases h
theorem ptrsOf_ok : ∀ {l : List AV} {ps : List (Nat × Nat)}, ptrsOf l = some ps → l.map (γ ρ s) = ps.map (γP s)
  | [], ps, h => by simp [ptrsOf] at h; subst h; rfl
  | .v (.one (.ptr b o)) :: l, ps, h => by
    simp only [ptrsOf] at h
    cases hl : ptrsOf l with
    | none => simp [hl] at h
    | some r => simp [hl] at h; subst h; simp [ptrsOf_ok hl, γ, γT, γC, γP]
  | .v (.one (.int _ _)) :: l, ps, h => by simp [ptrsOf] at h
  | .v (.one (.bool _)) :: l, ps, h => by simp [ptrsOf] at h
  | .v (.one .nilp) :: l, ps, h => by simp [ptrsOf] at h
  | .v (.one (.func _ _ _)) :: l, ps, h => by simp [ptrsOf] at h
  | .v (.one (.slice _ _ _ _)) :: l, ps, h => by simp [ptrsOf] at h
  | .v (.one .niliface) :: l, ps, h => by simp [ptrsOf] at h
  | .v (.one .nilf) :: l, ps, h => by simp [ptrsOf] at h
  | .v (.one .nils) :: l, ps, h => by simp [ptrsOf] at h
  | .v (.agg _) :: l, ps, h => by simp [ptrsOf] at h
  | .tup _ :: l, ps, h => by simp [ptrsOf] at h
theorem act_put {d : Tmp} {v : AV} (hd : d < 1024) (hn : fr.n ≤ 1024) : (act ρ s fr).put (some d) (γ ρ s v) = act ρ s ⟨fr.n, fr.t.set 10 d v⟩ := by
  simp only [Act.put, act, Act.mk.injEq, and_true]
  apply Array.ext_getElem?
  intro i
  simp only [List.setIfInBounds_toArray, List.getElem?_toArray, List.getElem?_set, List.length_map, List.length_range, List.getElem?_map, List.getElem?_range]
  by_cases hi : i < fr.n
  · have hi' : i < 1024 := by omega
    rw [List.getElem?_range hi]
    simp only [Option.map_some, Fr.get_set 10 _ d i v hd hi']
    by_cases e : d = i
    · subst e; simp [hi]
    · simp [e]
  · have : (List.range fr.n)[i]? = none := by simp; omega
    rw [this]
    by_cases e : d = i
    · subst e; simp [hi]
    · simp [e]

end
end Go.Proofs.YtpdaigenffecmaaDoor

namespace Go.Proofs.YtpdaigenffecmaaDoor
open Go Go.RowKit

section
variable {P : Program} {ρ : Nat → Int} {s s' : Nat → Nat} {m m' : Mem} {w w' : World} {fr : Frm} {T : Tab}

theorem run_und {t : TypeId} {d : TypeDesc} (h : P.underlying t = some d) : (underlying t).run P w = .ok d w := run_underlying h w
theorem run_isAgg' {t : TypeId} {b : Bool} (h : aggB P t = some b) : (isAgg t).run P w = .ok b w := by
  unfold aggB at h
  unfold isAgg
  cases hd : P.underlying t with
  | none => simp [hd] at h
  | some d =>
    simp only [hd] at h
    simp only [Sem.run_bind, run_und hd, Result.andThen_ok]
    cases d <;> simp at h <;> subst h <;> rfl
theorem info_of_size {t : TypeId} {n : Nat} (h : sizeB P t = some n) : ∃ i, P.info? t = some i ∧ i.size = n := by
  unfold sizeB at h
  cases hi : P.info? t with
  | none => simp [hi] at h
  | some i => simp [hi] at h; exact ⟨i, rfl, h⟩
theorem run_sizeOf' {t : TypeId} {n : Nat} (h : sizeB P t = some n) : (sizeOf t).run P w = .ok n w := by
  obtain ⟨i, hi, rfl⟩ := info_of_size h
  simp [sizeOf, typeInfo, hi]
theorem run_part' {t : TypeId} {cs : List CV} {off : Nat} {v : TV} (h : partA P t cs off = some v) :
    (part t (cs.map (γC ρ s)).toArray off).run P w = .ok (γT ρ s v) w := by
  unfold partA at h
  unfold part
  split at h
  · rename_i e
    split at h
    · rename_i n en
      cases h
      simp only [Sem.run_bind, run_isAgg' e, Result.andThen_ok, if_true, run_sizeOf' en, Sem.run_pure]
      simp [γT, List.extract_eq_take_drop]
    · cases h
  · rename_i e
    cases hc : cs[off]? with
    | none => simp [hc] at h
    | some c =>
      simp [hc] at h; subst h
      simp only [Sem.run_bind, run_isAgg' e, Result.andThen_ok]
      simp [hc, γT]
  · cases h

theorem run_loadFrom (a : Addr) (ha : a.spot = none) : ∀ (cs : List Value) (i : Nat) (acc : Array Value),
    (∀ j c, cs[j]? = some c → w.cell? ⟨a.block, a.off + i + j, none⟩ = some c) →
    (loadCellsFrom a i cs.length acc).run P w = .ok (acc ++ cs.toArray) w
  | [], i, acc, _ => by simp [loadCellsFrom]
  | c :: cs, i, acc, h => by
    have h0 := h 0 c rfl
    have hadd : a.add i = ⟨a.block, a.off + i, none⟩ := by
      unfold Addr.add
      split
      · rename_i e; subst e; cases a; simp at ha; simp [ha]
      · rfl
    have ih := run_loadFrom a ha cs (i + 1) (acc.push c) (fun j d hj => by
      have := h (j + 1) d (by simpa using hj)
      simpa [Nat.add_assoc, Nat.add_comm 1 j] using this)
    simp only [List.length_cons, loadCellsFrom, Sem.run_bind, hadd, run_load, h0, Nat.add_zero] at *
    simp only [h0, Result.andThen_ok, ih]
    simp
theorem run_loadAt' {t : TypeId} {b off : Nat} {v : TV} (hC : Cells ρ s m w) (h : loadA P m t b off = some v) :
    (Instr.loadAt t (.pointer (some ⟨s b, off, none⟩))).run P w = .ok (γT ρ s v) w := by
  unfold loadA at h
  cases hx : m.get b with
  | none => simp [hx] at h
  | some x =>
    simp only [hx] at h
    have hc := hC b x hx
    unfold Instr.loadAt Instr.sureAddr
    simp only [Sem.run_bind, Sem.run_pure, Result.andThen_ok]
    unfold loadVar
    split at h
    · rename_i e
      split at h
      · rename_i n en
        split at h
        · rename_i hle
          cases h
          have hle' : off + n ≤ x.cs.length := by simpa using hle
          have := run_loadFrom (P := P) (w := w) ⟨s b, off, none⟩ rfl (((x.cs.drop off).take n).map (γC ρ s)) 0 #[] (fun j c hj => by
            simp only [List.getElem?_map, List.getElem?_take, List.getElem?_drop, Option.map_eq_some_iff] at hj
            obtain ⟨c', hj, rfl⟩ := hj
            split at hj
            · have := hc (off + j) c' hj
              simpa using this
            · cases hj)
          have hl : (((x.cs.drop off).take n).map (γC ρ s)).length = n := by simp; omega
          rw [hl] at this
          simp only [Sem.run_bind, run_isAgg' e, Result.andThen_ok, if_true, run_sizeOf' en, loadCells, this, Sem.run_pure]
          simp [γT]
        · cases h
      · cases h
    · rename_i e
      cases hcc : x.cs[off]? with
      | none => simp [hcc] at h
      | some c =>
        simp [hcc] at h; subst h
        simp only [Sem.run_bind, run_isAgg' e, Result.andThen_ok, Bool.false_eq_true, if_false, run_load, hc off c hcc]
        rfl
    · cases h

/-! ### Building -/
theorem fold_set (off : Nat) : ∀ (vs : List Value) (k : Nat) (cs : List Value), off + k + vs.length ≤ cs.length →
    (vs.zipIdx k).foldl (fun (a : Array Value) p => a.setIfInBounds (off + p.2) p.1) cs.toArray = (cs.take (off + k) ++ vs ++ cs.drop (off + k + vs.length)).toArray
  | [], k, cs, _ => by simp
  | v :: vs, k, cs, h => by
    simp only [List.length_cons] at h
    have ih := fold_set off vs (k + 1) (cs.set (off + k) v) (by simp; omega)
    simp only [List.zipIdx_cons, List.foldl_cons, List.setIfInBounds_toArray, ih]
    have e1 : (cs.set (off + k) v).take (off + (k + 1)) = cs.take (off + k) ++ [v] := by
      rw [List.set_eq_take_append_cons_drop, if_pos (by omega), show off + (k + 1) = (off + k) + 1 from by omega, List.take_append]
      have hl : (cs.take (off + k)).length = off + k := by simp; omega
      rw [hl, List.take_of_length_le (by omega)]
      simp
    have e2 : (cs.set (off + k) v).drop (off + (k + 1) + vs.length) = cs.drop (off + k + (vs.length + 1)) := by
      rw [List.drop_set, if_pos (by omega)]
      congr 1; omega
    rw [e1, e2]
    simp
theorem γT_cells (v : TV) : (γT ρ s v).cells = (v.cells.map (γC ρ s)).toArray := by
  cases v with
  | one c => cases c <;> rfl
  | agg l => rfl
theorem splice_map (cs vs : List CV) (off : Nat) (f : CV → Value) : (splice cs off vs).map f = (cs.map f).take off ++ vs.map f ++ (cs.map f).drop (off + (vs.map f).length) := by
  simp [splice, List.map_take, List.map_drop]
theorem splice_length {cs vs : List CV} {off : Nat} (h : off + vs.length ≤ cs.length) : (splice cs off vs).length = cs.length := by
  simp [splice]; omega
theorem fill_ok {place : Nat → Option (Nat × Nat)} : ∀ {ps : List (Nat × TV)} {cs r : List CV}, fillA place cs ps = some r →
    Instr.fill place (cs.map (γC ρ s)).toArray (ps.map (fun p => (p.1, γT ρ s p.2))) = some (r.map (γC ρ s)).toArray
  | [], cs, r, h => by simp [fillA] at h; subst h; rfl
  | (i, v) :: ps, cs, r, h => by
    simp only [fillA] at h
    simp only [List.map_cons, Instr.fill]
    cases hp : place i with
    | none => simp [hp] at h
    | some q =>
      obtain ⟨off, size⟩ := q
      simp only [hp] at h ⊢
      split at h
      · rename_i hc
        simp only [Bool.and_eq_true, Nat.ble_eq] at hc
        obtain ⟨h1, h2⟩ := hc
        replace h1 : v.cells.length = size := Nat.eq_of_beq_eq_true h1
        have hn : (γT ρ s v).cells.size = size := by rw [γT_cells]; simp [h1]
        rw [if_neg (by rw [hn]; simp; omega)]
        have ih := fill_ok h
        have hz : (γT ρ s v).cells.zipIdx.foldl (fun (a : Array Value) p => a.setIfInBounds (off + p.2) p.1) (cs.map (γC ρ s)).toArray = ((splice cs off v.cells).map (γC ρ s)).toArray := by
          rw [γT_cells, Array.zipIdx_toArray, List.foldl_toArray' _ _ _ (by simp), fold_set off _ 0 _ (by simp; omega), splice_map]
          · simp
        rw [← ih]
        congr 1
      · cases h
theorem zero_ok {t : TypeId} {z : TV} (h : zeroA P t = some z) : (zeroValue t).run P w = .ok (γT ρ s z) w := by
  unfold zeroA at h
  unfold zeroValue typeInfo
  cases hi : P.info? t with
  | none => simp [hi] at h
  | some i =>
    simp only [hi] at h
    cases hz : i.zero with
    | none => simp [hz] at h
    | some u =>
      simp only [hz] at h
      simp [hi, hz, reifyT_ok h]
theorem run_sizes : ∀ {fs : List Field} {pl : List (Nat × Nat)}, sizesB P fs = some pl →
    (fs.mapM fun f => do pure (f.offset, ← sizeOf f.type) : Sem (List (Nat × Nat))).run P w = .ok pl w
  | [], pl, h => by simp [sizesB] at h; subst h; simp
  | f :: fs, pl, h => by
    simp only [sizesB] at h
    split at h
    · rename_i n r h1 h2
      cases h
      simp only [List.mapM_cons, Sem.run_bind, run_sizeOf' h1, Result.andThen_ok, Sem.run_pure, run_sizes h2]
    · cases h
theorem run_build' {t : TypeId} {ps : List (Nat × TV)} {v : TV} (h : buildA P t ps = some v) (parts : Array (Nat × Value))
    (hp : parts.toList = ps.map (fun p => (p.1, γT ρ s p.2))) : (Instr.build t parts).run P w = .ok (γT ρ s v) w := by
  unfold buildA at h
  unfold Instr.build
  split at h
  · rename_i z fs hz hu
    cases hs : sizesB P fs.toList with
    | none => simp [hs] at h
    | some pl =>
      simp only [hs] at h
      cases hf : fillA (fun i => pl[i]?) z.cells ps with
      | none => simp [hf] at h
      | some r =>
        simp [hf] at h; subst h
        have hfo := fill_ok (ρ := ρ) (s := s) hf
        have hm : (fs.mapM fun f => do pure (f.offset, ← sizeOf f.type) : Sem (Array (Nat × Nat))).run P w = .ok pl.toArray w := by
          rw [Array.mapM_eq_mapM_toList, Sem.run_map, run_sizes hs]; rfl
        simp only [Sem.run_bind, zero_ok (ρ := ρ) (s := s) hz, run_und hu, Result.andThen_ok, hm, γT_cells, hp]
        have e : (fun i : Nat => pl.toArray[i]?) = fun i => pl[i]? := by funext i; simp
        simp only [e, hfo]
        rfl
  · rename_i z n e hz hu
    cases hn : sizeB P e with
    | none => simp [hn] at h
    | some k =>
      simp only [hn] at h
      cases hf : fillA (fun i => some (i * k, k)) z.cells ps with
      | none => simp [hf] at h
      | some r =>
        simp [hf] at h; subst h
        have hfo := fill_ok (ρ := ρ) (s := s) hf
        simp only [Sem.run_bind, zero_ok (ρ := ρ) (s := s) hz, run_und hu, Result.andThen_ok, run_sizeOf' hn, γT_cells, hp, hfo]
        rfl
  · cases h

theorem run_index' {t : TypeId} {cs : List CV} {k : IntKind} {i : Int} {v : TV} (h : indexA P t cs i = some v) :
    (Instr.index t (.agg (cs.map (γC ρ s)).toArray) (.int k i)).run P w = .ok (γT ρ s v) w := by
  unfold indexA at h
  unfold Instr.index
  split at h
  · rename_i len e hu
    split at h
    · rename_i n hn
      split at h
      · rename_i hi
        simp only [asIntOf, Sem.run_bind, Sem.run_pure, Result.andThen_ok, run_und hu, if_pos hi, run_sizeOf' hn, run_part' h]
      · cases h
    · cases h
  · cases h
theorem run_field' {t : TypeId} {cs : List CV} {f : Nat} {v : TV} (h : fieldA P t cs f = some v) :
    (Instr.field t (.agg (cs.map (γC ρ s)).toArray) f).run P w = .ok (γT ρ s v) w := by
  unfold fieldA at h
  unfold Instr.field
  split at h
  · rename_i fs hu
    split at h
    · rename_i x hx
      simp only [Sem.run_bind, Sem.run_pure, Result.andThen_ok, run_und hu, hx, asAgg, run_part' h]
    · cases h
  · cases h
theorem add_plain (a : Addr) (ha : a.spot = none) (n : Nat) : a.add n = ⟨a.block, a.off + n, none⟩ := by
  unfold Addr.add
  split
  · rename_i e; subst e; cases a; simp at ha; simp [ha]
  · rfl

/-! ### All of them -/
/-- The table of operations is right. -/
def TabOp (P : Program) (ρ : Nat → Int) (T : Tab) : Prop :=
  ∀ o vs v, T.op o vs = some v → ∀ (s : Nat → Nat) (ev : Operand → Value), o.operands.toList.map ev = vs.map (γ ρ s) →
    ∀ (x : Oper) (w : World), x.op = o → (execOp ev x).run P w = .ok (.value (γ ρ s v)) w
theorem pure_ok (hT : TabOp P ρ T) (hg : Gl s) (hC : Cells ρ s m w) (o : Oper) {v : AV} (h : pureA P T m fr o.op = some v) :
    (execOp (act ρ s fr).eval o).run P w = .ok (.value (γ ρ s v)) w := by
  obtain ⟨dst, op, ty, pos, aft, gd⟩ := o
  have ext : ∀ vs, evalL fr op.operands.toList = some vs → T.op op vs = some v →
      (execOp (act ρ s fr).eval ⟨dst, op, ty, pos, aft, gd⟩).run P w = .ok (.value (γ ρ s v)) w :=
    fun vs hl ho => hT _ _ _ ho s _ (evalL_ok hg hl) _ w rfl
  cases op with
  | move x => simp only [pureA] at h; simp [execOp, evalA_ok hg h]
  | assign x => simp only [pureA] at h; simp [execOp, evalA_ok hg h]
  | pick c a b =>
    simp only [pureA] at h
    split at h
    · rename_i hc; simp [execOp, evalC_ok (ρ := ρ) (s := s) hg hc, γC, asBool, evalA_ok hg h]
    · rename_i hc; simp [execOp, evalC_ok (ρ := ρ) (s := s) hg hc, γC, asBool, evalA_ok hg h]
    · cases h
  | load t a =>
    simp only [pureA] at h
    split at h
    · rename_i b off hc
      cases hl : loadA P m t b off with
      | none => simp [hl] at h
      | some u =>
        simp [hl] at h; subst h
        simp only [execOp, Sem.run_bind, evalC_ok (ρ := ρ) (s := s) hg hc, γC, run_loadAt' hC hl, Result.andThen_ok, Sem.run_pure, γ]
    · cases h
  | nilCheck x =>
    simp only [pureA] at h
    split at h
    · rename_i hc; cases h; simp [execOp, evalC_ok (ρ := ρ) (s := s) hg hc, γC, γ, γT]
    · rename_i hc; cases h; simp [execOp, evalC_ok (ρ := ρ) (s := s) hg hc, γC, γ, γT]
    · rename_i hc; cases h; simp [execOp, evalC_ok (ρ := ρ) (s := s) hg hc, γC, γ, γT]
    · cases h
  | fieldAddr t x f =>
    simp only [pureA] at h
    split at h
    · rename_i b off fs hc hu
      split at h
      · rename_i y hy
        split at h
        · rename_i n hn
          cases h
          simp [execOp, evalC_ok (ρ := ρ) (s := s) hg hc, γC, γ, γT, Instr.fieldAt, run_und hu, hy, Instr.sureAddr, fieldPlace, run_sizeOf' hn, add_plain]
        · cases h
      · cases h
    · cases h
  | field t x f =>
    simp only [pureA] at h
    split at h
    · rename_i cs hc
      cases hl : fieldA P t cs f with
      | none => simp [hl] at h
      | some u =>
        simp [hl] at h; subst h
        simp only [execOp, Sem.run_bind, evalT_ok (ρ := ρ) (s := s) hg hc, γT, run_field' hl, Result.andThen_ok, Sem.run_pure, γ]
    · cases h
  | indexAddr t x ix =>
    simp only [pureA] at h
    split at h
    · rename_i b off k i len e hc hi hu
      split at h
      · rename_i n hn
        split at h
        · rename_i hb
          cases h
          simp [execOp, evalC_ok (ρ := ρ) (s := s) hg hc, evalC_ok (ρ := ρ) (s := s) hg hi, γC, γI, γ, γT, Instr.indexAt, asIntOf, run_und hu, Instr.sureAddr, run_sizeOf' hn, add_plain, hb]
        · cases h
      · cases h
    · rename_i b off len k i e c hc hi hu
      split at h
      · rename_i n hn
        split at h
        · rename_i hb
          cases h
          simp [execOp, evalC_ok (ρ := ρ) (s := s) hg hc, evalC_ok (ρ := ρ) (s := s) hg hi, γC, γI, γ, γT, Instr.indexAt, asIntOf, run_und hu, Instr.sureAddr, run_sizeOf' hn, add_plain, hb]
        · cases h
      · cases h
    · cases h
  | index t x ix =>
    simp only [pureA] at h
    split at h
    · rename_i cs k i hc hi
      cases hl : indexA P t cs i with
      | none => simp [hl] at h
      | some u =>
        simp [hl] at h; subst h
        simp only [execOp, Sem.run_bind, evalT_ok (ρ := ρ) (s := s) hg hc, evalC_ok (ρ := ρ) (s := s) hg hi, γT, γC, γI, run_index' hl, Result.andThen_ok, Sem.run_pure, γ]
    · cases h
  | extract x i =>
    simp only [pureA] at h
    split at h
    · rename_i l hc
      cases hl : l[i]? with
      | none => simp [hl] at h
      | some u =>
        simp [hl] at h; subst h
        simp [execOp, evalA_ok (ρ := ρ) (s := s) hg hc, γ, Instr.extract, hl]
    · cases h
  | build t parts =>
    simp only [pureA] at h
    split at h
    · rename_i ps hc
      cases hl : buildA P t ps with
      | none => simp [hl] at h
      | some u =>
        simp [hl] at h; subst h
        have hp := evalParts_ok (ρ := ρ) (s := s) hg hc
        simp only [execOp, Sem.run_bind]
        rw [run_build' (ρ := ρ) (s := s) hl _ (by rw [← hp]; simp)]
        rfl
    · cases h
  | makeFunc fn first caps =>
    cases fn with
    | func f => ?_
    | _ =>
      simp only [pureA] at h
      split at h
      · exact ext _ ‹_› h
      · cases h
    simp only [pureA] at h
    split at h
    · rename_i a c ha hc
      split at h
      · rename_i a' c' ha' hc'
        cases h
        have h1 := (evalL_ok (ρ := ρ) (s := s) hg ha).trans (ptrsOf_ok ha')
        have h2 := (evalL_ok (ρ := ρ) (s := s) hg hc).trans (ptrsOf_ok hc')
        have e1 : first.map (act ρ s fr).eval = (a'.map (γP s)).toArray := Array.ext' (by rw [Array.toList_map, h1])
        have e2 : caps.map (act ρ s fr).eval = (c'.map (γP s)).toArray := Array.ext' (by rw [Array.toList_map, h2])
        simp only [execOp, Instr.makeFunc, Sem.run_bind, Sem.run_pure, Result.andThen_ok, γ, γT, γC, e1, e2]
      · cases h
    · cases h
  | slice t x lo hi mx =>
    simp only [pureA] at h
    split at h
    · rename_i b off len cap e l hb hx hu hl hh
      split at h
      · rename_i n hn
        split at h
        · rename_i hc
          cases h
          have bnd : ∀ {z : Option Operand} {y : Option Nat}, boundA fr z = some y → (z = none ∧ y = none) ∨ ∃ q k i, z = some q ∧ (act ρ s fr).eval q = .int k i ∧ 0 ≤ i ∧ y = some i.toNat := by
            intro z y hz
            unfold boundA at hz
            split at hz
            · cases hz; exact .inl ⟨rfl, rfl⟩
            · rename_i q
              split at hz
              · rename_i k i hq
                split at hz
                · rename_i hi; cases hz; exact .inr ⟨q, k, i, rfl, evalC_ok hg hq, hi, rfl⟩
                · cases hz
              · cases hz
          have sb : ∀ (k : IntKind) (i : Int) (y : Nat) code, 0 ≤ i → i ≤ y → (Instr.sliceBound (.int k i) y code).run P w = .ok i.toNat w := by
            intro k i y code h0 h1
            simp only [Instr.sliceBound, asIntOf, Sem.run_bind, Sem.run_pure, Result.andThen_ok]
            rw [if_pos ⟨h0, h1⟩]; rfl
          have hbs : (Instr.sliceBounds true len cap (lo.map (act ρ s fr).eval) (hi.map (act ρ s fr).eval) none).run P w = .ok (l.getD 0, hb.getD len, cap) w := by
            obtain ⟨c1, c2, c3⟩ := hc
            rcases bnd hh with ⟨rfl, rfl⟩ | ⟨q, k, i, rfl, hq, hi, rfl⟩ <;> rcases bnd hl with ⟨rfl, rfl⟩ | ⟨q', k', i', rfl, hq', hi', rfl⟩
            · rfl
            · simp only [Option.getD_some, Option.getD_none] at c1 c2 c3
              simp only [Instr.sliceBounds, Option.map_some, Option.map_none, hq', Sem.run_bind, Sem.run_pure, Result.andThen_ok, sb _ _ _ _ hi' (by omega : i' ≤ (len : Int))]
              rfl
            · simp only [Option.getD_some, Option.getD_none] at c1 c2 c3
              simp only [Instr.sliceBounds, Option.map_some, Option.map_none, hq, Sem.run_bind, Sem.run_pure, Result.andThen_ok, if_true, sb _ _ _ _ hi (by omega : i ≤ (cap : Int))]
              rfl
            · simp only [Option.getD_some, Option.getD_none] at c1 c2 c3
              simp only [Instr.sliceBounds, Option.map_some, Option.map_none, hq, hq', Sem.run_bind, Sem.run_pure, Result.andThen_ok, if_true, sb _ _ _ _ hi (by omega : i ≤ (cap : Int)), sb _ _ _ _ hi' (by omega : i' ≤ (i.toNat : Int))]
              rfl
          simp only [execOp, Sem.run_bind, evalC_ok (ρ := ρ) (s := s) hg hx, γC, Instr.sliceAt, run_und hu, Result.andThen_ok, Instr.slice, Option.map_none, hbs, run_sizeOf' hn, Sem.run_pure]
          rw [if_neg (by omega)]
          simp [γ, γT, γC, add_plain]
        · cases h
      · cases h
    · cases h
  | unOp u t x =>
    cases u with
    | not => ?_
    | _ =>
      simp only [pureA] at h
      split at h
      · exact ext _ ‹_› h
      · cases h
    simp only [pureA] at h
    split at h
    · rename_i b hc; cases h; simp [execOp, evalC_ok (ρ := ρ) (s := s) hg hc, γC, γ, γT, Op.unary]
    · cases h
  | alloc t => cases h
  | box t x => cases h
  | buildSlice t l x => cases h
  | store t a x => cases h
  | _ =>
    simp only [pureA] at h
    split at h
    · exact ext _ ‹_› h
    · cases h

end
end Go.Proofs.YtpdaigenffecmaaDoor
