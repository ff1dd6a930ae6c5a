/-
  The walk of span.between over its iterator, and what is built on it: products and quotients of intervals.
-/
import Derived.RangeFuncNested
import Derived.RangeFuncBound
import Derived.RangeFuncCalls
import Derived.RangeFuncLeaves
import Derived.Shelf.Abstract
import Derived.OwnWalkIn
import Derived.BigFrameIn
import Derived.TacticsInMore
import Derived.LoopNIn
import Derived.LoopIn
import Derived.Test.YtpdaigenffecmaaM06
set_option linter.all false
namespace Go.Proofs.Ytpdaigenffecmaa
open Go.RowKit Go.Shelf
attribute [local go_sem] Oper.semAt_some

abbrev encs2 (p : Int × Int) : Array Value := #[.int .i64 p.1, .int .i64 p.2]
abbrev four4 (al ah bl bh : Int) : List (Int × Int) := [(al, bl), (al, bh), (ah, bl), (ah, bh)]

set_option maxHeartbeats 4000000 in
theorem corners_stops (n : Nat) (hn : 1 ≤ n) (pa pb : Nat) (al ah bl bh : Int) (w : World) (ha : pa < w.heap.size) (hb : pb < w.heap.size)
    (a0 : w.cell? ⟨pa, 0, none⟩ = some (.int .i64 al)) (a1 : w.cell? ⟨pa, 1, none⟩ = some (.int .i64 ah))
    (b0 : w.cell? ⟨pb, 0, none⟩ = some (.int .i64 bl)) (b1 : w.cell? ⟨pb, 1, none⟩ = some (.int .i64 bh)) :
    SeqStopsK Fence.wide n Try.prog 145 #[.pointer (some ⟨pa, 0, none⟩), .pointer (some ⟨pb, 0, none⟩)] encs2 (fun A B => B.heap[pa]? = A.heap[pa]? ∧ B.heap[pb]? = A.heap[pb]?)
      (fun xs => xs = four4 al ah bl bh) (fun pre => pre <+: four4 al ah bl bh) 4 w := fun l J Jx W hW _ _ hY h0 => by
  have a0 : W.cell? ⟨pa, 0, none⟩ = some (.int .i64 al) := (hW.cell (p := ⟨pa, 0, none⟩) (by simpa using ha)).trans a0
  have a1 : W.cell? ⟨pa, 1, none⟩ = some (.int .i64 ah) := (hW.cell (p := ⟨pa, 1, none⟩) (by simpa using ha)).trans a1
  have b0 : W.cell? ⟨pb, 0, none⟩ = some (.int .i64 bl) := (hW.cell (p := ⟨pb, 0, none⟩) (by simpa using hb)).trans b0
  have b1 : W.cell? ⟨pb, 1, none⟩ = some (.int .i64 bh) := (hW.cell (p := ⟨pb, 1, none⟩) (by simpa using hb)).trans b1
  refine callsIn_of_wp Try.func145 rfl trivial ?_ rfl
  simp only [Try.ntmps145, List.size_toArray, List.length_cons, List.length_nil, Nat.reduceAdd, Nat.reduceSub, Array.replicate_succ, Array.replicate_zero, List.push_toArray, List.append_toArray, List.nil_append, List.cons_append]
  obtain ⟨f1, t1, s1, c1, hy1, hR1⟩ := hY [] (al, bl) W h0 (by simp)
  dsimp only [encs2] at hy1
  have HR1 := Lib.hid hR1; clear hR1
  gi_wp2_with (first | (with_reducible refine wpIn_rounds 3 ?_) | (with_reducible refine roundsIn_step _ ?_; intro _ _))
  refine HR1.out.mono ?_
  rintro e W1 (⟨rfl, h1, hk1⟩ | ⟨rfl, hx1⟩)
  · have a0 : W1.cell? ⟨pa, 0, none⟩ = some (.int .i64 al) := (World.cell?_of_block (a := ⟨pa, 0, none⟩) hk1.1).trans a0
    have a1 : W1.cell? ⟨pa, 1, none⟩ = some (.int .i64 ah) := (World.cell?_of_block (a := ⟨pa, 1, none⟩) hk1.1).trans a1
    have b0 : W1.cell? ⟨pb, 0, none⟩ = some (.int .i64 bl) := (World.cell?_of_block (a := ⟨pb, 0, none⟩) hk1.2).trans b0
    have b1 : W1.cell? ⟨pb, 1, none⟩ = some (.int .i64 bh) := (World.cell?_of_block (a := ⟨pb, 1, none⟩) hk1.2).trans b1
    obtain ⟨f2, t2, s2, c2, hy2, hR2⟩ := hY [(al, bl)] (al, bh) W1 h1 (by simp)
    dsimp only [encs2] at hy2
    have HR2 := Lib.hid hR2; clear hR2
    gi_wp2_with (first | (with_reducible refine wpIn_rounds 3 ?_) | (with_reducible refine roundsIn_step _ ?_; intro _ _))
    refine HR2.out.mono ?_
    rintro e W2 (⟨rfl, h2, hk2⟩ | ⟨rfl, hx2⟩)
    · have a0 : W2.cell? ⟨pa, 0, none⟩ = some (.int .i64 al) := (World.cell?_of_block (a := ⟨pa, 0, none⟩) hk2.1).trans a0
      have a1 : W2.cell? ⟨pa, 1, none⟩ = some (.int .i64 ah) := (World.cell?_of_block (a := ⟨pa, 1, none⟩) hk2.1).trans a1
      have b0 : W2.cell? ⟨pb, 0, none⟩ = some (.int .i64 bl) := (World.cell?_of_block (a := ⟨pb, 0, none⟩) hk2.2).trans b0
      have b1 : W2.cell? ⟨pb, 1, none⟩ = some (.int .i64 bh) := (World.cell?_of_block (a := ⟨pb, 1, none⟩) hk2.2).trans b1
      obtain ⟨f3, t3, s3, c3, hy3, hR3⟩ := hY [(al, bl), (al, bh)] (ah, bl) W2 h2 (by simp)
      dsimp only [encs2] at hy3
      have HR3 := Lib.hid hR3; clear hR3
      gi_wp2_with (first | (with_reducible refine wpIn_rounds 3 ?_) | (with_reducible refine roundsIn_step _ ?_; intro _ _))
      refine HR3.out.mono ?_
      rintro e W3 (⟨rfl, h3, hk3⟩ | ⟨rfl, hx3⟩)
      · have a0 : W3.cell? ⟨pa, 0, none⟩ = some (.int .i64 al) := (World.cell?_of_block (a := ⟨pa, 0, none⟩) hk3.1).trans a0
        have a1 : W3.cell? ⟨pa, 1, none⟩ = some (.int .i64 ah) := (World.cell?_of_block (a := ⟨pa, 1, none⟩) hk3.1).trans a1
        have b0 : W3.cell? ⟨pb, 0, none⟩ = some (.int .i64 bl) := (World.cell?_of_block (a := ⟨pb, 0, none⟩) hk3.2).trans b0
        have b1 : W3.cell? ⟨pb, 1, none⟩ = some (.int .i64 bh) := (World.cell?_of_block (a := ⟨pb, 1, none⟩) hk3.2).trans b1
        obtain ⟨f4, t4, s4, c4, hy4, hR4⟩ := hY [(al, bl), (al, bh), (ah, bl)] (ah, bh) W3 h3 (by simp)
        dsimp only [encs2] at hy4
        have HR4 := Lib.hid hR4; clear hR4
        gi_wp2_with (first | (with_reducible refine wpIn_rounds 3 ?_) | (with_reducible refine roundsIn_step _ ?_; intro _ _))
        refine HR4.out.mono ?_
        rintro e W4 (⟨rfl, h4, hk4⟩ | ⟨rfl, hx4⟩)
        · have a0 : W4.cell? ⟨pa, 0, none⟩ = some (.int .i64 al) := (World.cell?_of_block (a := ⟨pa, 0, none⟩) hk4.1).trans a0
          have a1 : W4.cell? ⟨pa, 1, none⟩ = some (.int .i64 ah) := (World.cell?_of_block (a := ⟨pa, 1, none⟩) hk4.1).trans a1
          have b0 : W4.cell? ⟨pb, 0, none⟩ = some (.int .i64 bl) := (World.cell?_of_block (a := ⟨pb, 0, none⟩) hk4.2).trans b0
          have b1 : W4.cell? ⟨pb, 1, none⟩ = some (.int .i64 bh) := (World.cell?_of_block (a := ⟨pb, 1, none⟩) hk4.2).trans b1
          gi_wp2_with (first | (with_reducible refine wpIn_rounds 3 ?_) | (with_reducible refine roundsIn_step _ ?_; intro _ _))
          go_end0
          exact ⟨⟨_, rfl⟩, .inl ⟨_, rfl, h4⟩⟩
        · gi_wp2_with (first | (with_reducible refine wpIn_rounds 3 ?_) | (with_reducible refine roundsIn_step _ ?_; intro _ _))
          refine bodyPost_ret (results_none rfl _ _ _) rfl ?_
          exact ⟨⟨_, rfl⟩, .inr ⟨_, by simp [four4], hx4⟩⟩
      · gi_wp2_with (first | (with_reducible refine wpIn_rounds 3 ?_) | (with_reducible refine roundsIn_step _ ?_; intro _ _))
        refine bodyPost_ret (results_none rfl _ _ _) rfl ?_
        exact ⟨⟨_, rfl⟩, .inr ⟨_, by simp [four4], hx3⟩⟩
    · gi_wp2_with (first | (with_reducible refine wpIn_rounds 3 ?_) | (with_reducible refine roundsIn_step _ ?_; intro _ _))
      refine bodyPost_ret (results_none rfl _ _ _) rfl ?_
      exact ⟨⟨_, rfl⟩, .inr ⟨_, by simp [four4], hx2⟩⟩
  · gi_wp2_with (first | (with_reducible refine wpIn_rounds 3 ?_) | (with_reducible refine roundsIn_step _ ?_; intro _ _))
    refine bodyPost_ret (results_none rfl _ _ _) rfl ?_
    exact ⟨⟨_, rfl⟩, .inr ⟨_, by simp [four4], hx1⟩⟩

theorem c_corners (al ah bl bh : Int) (w : World) :
    Calls Try.prog 136 #[.agg #[.int .i64 al, .int .i64 ah], .agg #[.int .i64 bl, .int .i64 bh]] w fun e w' =>
      e = .returned (.func (.func 145) #[] #[.pointer (some ⟨w.heap.size, 0, none⟩), .pointer (some ⟨w.heap.size + 1, 0, none⟩)]) ∧
      w' = (w.alloc (.cells #[.int .i64 al, .int .i64 ah] 23)).alloc (.cells #[.int .i64 bl, .int .i64 bh] 23) := by
  go_enter Try.func136, Try.ntmps136
  go_wp2
  go_ret
  exact ⟨rfl, rfl⟩

/-- Two blocks of cells may have changed, and nothing else. -/
structure Only2 (p q : Nat) (w w' : World) : Prop where
  os : w'.os = w.os
  tape : w'.tape = w.tape
  output : w'.output = w.output
  size : w'.heap.size = w.heap.size
  block : ∀ k, k ≠ p → k ≠ q → w'.heap[k]? = w.heap[k]?
  others : KeepsOthers w w'
theorem Only2.refl (p q : Nat) (w : World) : Only2 p q w w := ⟨rfl, rfl, rfl, rfl, fun _ _ _ => rfl, KeepsOthers.refl _⟩
theorem Only2.setCell {p q : Nat} {w w1 : World} (h : Only2 p q w w1) (b o : Nat) (v : Value) (hb : b = p ∨ b = q) : Only2 p q w (w1.setCell ⟨b, o, none⟩ v) :=
  ⟨h.os, h.tape, h.output, by have := h.size; simpa [World.setCell] using this, fun k h1 h2 => (Below.heap_setCell _ _ _ _ (by simp only; omega)).trans (h.block k h1 h2), h.others.trans (KeepsOthers.setCell _ _ _)⟩
theorem Only2.cell {p q : Nat} {w w' : World} (h : Only2 p q w w') {b o : Nat} (h1 : b ≠ p) (h2 : b ≠ q) : w'.cell? ⟨b, o, none⟩ = w.cell? ⟨b, o, none⟩ := World.cell?_of_block (w := w) (h.block b h1 h2)
theorem Only2.frozen {p q : Nat} {w w' : World} (h : Only2 p q w w') {b o : Nat} (h1 : b ≠ p) (h2 : b ≠ q) : w'.frozen? ⟨b, o, none⟩ = w.frozen? ⟨b, o, none⟩ := World.frozen?_of_block (w := w) (h.block b h1 h2)
theorem Only2.below {p q n : Nat} {w w' : World} (h : Only2 p q w w') (h1 : n ≤ p) (h2 : n ≤ q) : Below n w w' :=
  ⟨h.os, h.tape, h.output, Nat.le_of_eq h.size.symm, fun k hk => h.block k (by omega) (by omega)⟩

/-- Below block B all but two blocks lie as they lay. -/
structure KB (B p q : Nat) (w w' : World) : Prop where
  os : w'.os = w.os
  tape : w'.tape = w.tape
  output : w'.output = w.output
  size : w.heap.size ≤ w'.heap.size
  block : ∀ k, k < B → k ≠ p → k ≠ q → w'.heap[k]? = w.heap[k]?
theorem KB.refl (B p q : Nat) (w : World) : KB B p q w w := ⟨rfl, rfl, rfl, Nat.le_refl _, fun _ _ _ _ => rfl⟩
theorem KB.below {B p q n : Nat} {w w1 w2 : World} (h : KB B p q w w1) (hb : Below n w1 w2) (hn : B ≤ n) : KB B p q w w2 :=
  ⟨hb.os.trans h.os, hb.tape.trans h.tape, hb.output.trans h.output, Nat.le_trans h.size hb.size, fun k h1 h2 h3 => (hb.block k (by omega)).trans (h.block k h1 h2 h3)⟩
theorem KB.only {B p q : Nat} {w w1 w2 : World} (h : KB B p q w w1) (ho : Only2 p q w1 w2) : KB B p q w w2 :=
  ⟨ho.os.trans h.os, ho.tape.trans h.tape, ho.output.trans h.output, by have := h.size; have := ho.size; omega, fun k h1 h2 h3 => (ho.block k h2 h3).trans (h.block k h1 h2 h3)⟩
theorem KB.cell {B p q : Nat} {w w' : World} (h : KB B p q w w') {b o : Nat} (hb : b < B) (h1 : b ≠ p) (h2 : b ≠ q) : w'.cell? ⟨b, o, none⟩ = w.cell? ⟨b, o, none⟩ := World.cell?_of_block (w := w) (h.block b hb h1 h2)
theorem KB.frozen {B p q : Nat} {w w' : World} (h : KB B p q w w') {b o : Nat} (hb : b < B) (h1 : b ≠ p) (h2 : b ≠ q) : w'.frozen? ⟨b, o, none⟩ = w.frozen? ⟨b, o, none⟩ := World.frozen?_of_block (w := w) (h.block b hb h1 h2)
theorem KB.toBelow {B p q n : Nat} {w w' : World} (h : KB B p q w w') (h0 : n ≤ B) (h1 : n ≤ p) (h2 : n ≤ q) : Below n w w' :=
  ⟨h.os, h.tape, h.output, h.size, fun k hk => h.block k (by omega) (by omega) (by omega)⟩
theorem KB.own {β : Type} {B p q : Nat} {w : World} (hB : B ≤ w.heap.size) : OwnFrom B (fun (_ : β) W => KB B p q w W) :=
  fun _ _ _ _ hs hg hr => ⟨hg.os.trans hs.os, hg.tape.trans hs.tape, hg.output.trans hs.output, Nat.le_trans hs.size hg.size,
    fun k h1 h2 h3 => (hg.block k (by have := hs.size; omega) (fun e => by have := (hr k e.symm).1; omega)).trans (hs.block k h1 h2 h3)⟩
theorem KeepsOthers.of_below {w w' : World} (h : Below w.heap.size w w') : KeepsOthers w w' :=
  ⟨h.size, fun k o hk _ => (h.block k (Array.getElem?_eq_some_iff.1 hk).1).trans hk⟩

/-- The least and the greatest so far. -/
def btStep (f : Int → Int → Bool → Int × Int) (r : Option (Int × Int)) (p : Int × Int) : Option (Int × Int) :=
  match r with
  | none => some ((f p.1 p.2 false).1, (f p.1 p.2 true).1)
  | some (l, h) => some (if (f p.1 p.2 false).1 < l then (f p.1 p.2 false).1 else l, if h < (f p.1 p.2 true).1 then (f p.1 p.2 true).1 else h)
def btFold (f : Int → Int → Bool → Int × Int) (pre : List (Int × Int)) : Option (Int × Int) := pre.foldl (btStep f) none
theorem btFold_snoc (f : Int → Int → Bool → Int × Int) (pre : List (Int × Int)) (x : Int × Int) : btFold f (pre ++ [x]) = btStep f (btFold f pre) x := by simp [btFold]

set_option maxHeartbeats 1000000 in
theorem c_take (low high e0 e1 : Int) (m : Bool) (pm pe : Nat) (w : World) (hne : pm ≠ pe)
    (hm : w.cell? ⟨pm, 0, none⟩ = some (.bool m)) (h0 : w.cell? ⟨pe, 0, none⟩ = some (.int .i64 e0)) (h1 : w.cell? ⟨pe, 1, none⟩ = some (.int .i64 e1))
    (fm : w.frozen? ⟨pm, 0, none⟩ = false) (f0 : w.frozen? ⟨pe, 0, none⟩ = false) (f1 : w.frozen? ⟨pe, 1, none⟩ = false) :
    Calls Try.prog 135 #[.int .i64 low, .int .i64 high, .pointer (some ⟨pm, 0, none⟩), .pointer (some ⟨pe, 0, none⟩)] w fun e w' =>
      e = .returned (.tuple #[]) ∧ Only2 pm pe w w' ∧ w'.cell? ⟨pm, 0, none⟩ = some (.bool true) ∧
      w'.cell? ⟨pe, 0, none⟩ = some (.int .i64 (if m = false ∨ low < e0 then low else e0)) ∧ w'.cell? ⟨pe, 1, none⟩ = some (.int .i64 (if m = false ∨ e1 < high then high else e1)) ∧
      w'.frozen? ⟨pm, 0, none⟩ = false ∧ w'.frozen? ⟨pe, 0, none⟩ = false ∧ w'.frozen? ⟨pe, 1, none⟩ = false := by
  have hne' : ¬ pe = pm := fun h => hne h.symm
  go_enter Try.func135, Try.ntmps135
  cases m
  all_goals go_wp2
  all_goals (go_end0; refine ⟨rfl, ?_, ?_, ?_, ?_, ?_, ?_, ?_⟩)
  all_goals first
    | ((repeat (first | (with_reducible exact Only2.refl _ _ _) | (with_reducible refine Only2.setCell ?_ _ _ _ (by simp)))); done)
    | (go_simp; done)
    | (simp [*]; done)
    | (simp [*]; omega)

end Go.Proofs.Ytpdaigenffecmaa
