/- A matrix that is collected number by number, and the contract of the reference's TurnMatrix. Conditions: at most 2 to the 20 values. -/
import Derived.Test.YtfnajbifdilfmaaTurnS
namespace Go.Proofs.Ytfnajbifdilfmaa
open Go Go.RowKit

theorem gb_none {w W W' : World} {row : Option Nat} (h : w.grownBy W none) (hg : W.grownBy W' row) (hrow : ∀ k, row = some k → w.heap.size ≤ k) : w.grownBy W' none :=
  ⟨hg.os.trans h.os, hg.tape.trans h.tape, hg.output.trans h.output, Nat.le_trans h.size hg.size, fun k hk hne => (hg.block k (Nat.lt_of_lt_of_le hk h.size) (fun e => by have := hrow k e.symm; omega)).trans (h.block k hk hne)⟩
/-- The state: k numbers ys have been collected in the matrix in block B3, the newest block of W3; whatever else lay in W3 lies as it lay. -/
structure Col (W3 wr : World) (B3 : Nat) (R C : Int) (k : Nat) (sl : Value) (ys : List Int) : Prop where
  own : wr.ownsRow (B3 + 1) 3 1 sl k (ints ys)
  t3 : Three wr B3 (.int .i64 R) (.int .i64 C) sl
  gw : W3.grownBy wr (some B3)
  n : W3.heap.size = B3 + 1
theorem Col.start (W : World) (R C : Int) : Col (W.alloc (.cells #[.int .i64 R, .int .i64 C, .slice none 0 0] 26)) (W.alloc (.cells #[.int .i64 R, .int .i64 C, .slice none 0 0] 26)) W.heap.size R C 0 (.slice none 0 0) [] :=
  ⟨World.ownsRow_nil _ _ _ _, Three.new _ _ _ _ _, World.grownBy.refl _ _, by simp⟩
theorem gb_row0 {a b c : World} {q : Nat} (h : a.grownBy b (some q)) (k : b.grownBy c none) : a.grownBy c (some q) :=
  ⟨k.os.trans h.os, k.tape.trans h.tape, k.output.trans h.output, Nat.le_trans h.size k.size, fun i hi hne => (k.block i (Nat.lt_of_lt_of_le hi h.size) (by simp)).trans (h.block i hi hne)⟩
theorem gb_set (w : World) (b o : Nat) (v : Value) : w.grownBy (w.setCell ⟨b, o, none⟩ v) (some b) :=
  ⟨rfl, rfl, rfl, by simp, fun k _ hk => Below.heap_setCell _ _ _ k (fun e => hk (by rw [e]))⟩
theorem ne_of {v v' : Value} {P Q : Nat → Prop} (h : ∀ q, v.ownBlock = some q → P q) (h' : ∀ q, v'.ownBlock = some q → Q q) (no : ∀ q, P q → Q q → False) : v.ownBlock = none ∨ v.ownBlock ≠ v'.ownBlock := by
  cases hv : v.ownBlock with
  | none => exact .inl rfl
  | some q => right; intro e; exact no q (h q hv) (h' q e.symm)
/-- The three cells are written. -/
theorem Three.set {w : World} {B : Nat} {x y z : Value} (h : Three w B x y z) (x' y' z' : Value) :
    Three (((w.setCell ⟨B, 0, none⟩ x').setCell ⟨B, 1, none⟩ y').setCell ⟨B, 2, none⟩ z') B x' y' z' ∧ w.grownBy (((w.setCell ⟨B, 0, none⟩ x').setCell ⟨B, 1, none⟩ y').setCell ⟨B, 2, none⟩ z') (some B) := by
  refine ⟨⟨?_, ?_, ?_, ?_, ?_, ?_⟩, gbt (gbt (gb_set _ _ _ _) (gb_set _ _ _ _)) (gb_set _ _ _ _)⟩
  · rw [World.cell?_setCell_other _ _ _ _ (by simp), World.cell?_setCell_other _ _ _ _ (by simp)]; exact World.cell?_setCell_same _ _ _ h.c0
  · rw [World.cell?_setCell_other _ _ _ _ (by simp)]; exact World.cell?_setCell_same _ _ _ ((World.cell?_setCell_other _ _ _ _ (by simp)).trans h.c1)
  · exact World.cell?_setCell_same _ _ _ ((World.cell?_setCell_other _ _ _ _ (by simp)).trans ((World.cell?_setCell_other _ _ _ _ (by simp)).trans h.c2))
  · rw [World.frozen?_setCell, World.frozen?_setCell, World.frozen?_setCell]; exact h.f0
  · rw [World.frozen?_setCell, World.frozen?_setCell, World.frozen?_setCell]; exact h.f1
  · rw [World.frozen?_setCell, World.frozen?_setCell, World.frozen?_setCell]; exact h.f2
theorem Col.kept {W3 wr w' : World} {B3 : Nat} {R C : Int} {k : Nat} {sl : Value} {ys : List Int} (h : Col W3 wr B3 R C k sl ys) (hg : wr.grownBy w' none) : Col W3 w' B3 R C k sl ys :=
  ⟨own_kept h.own hg, h.t3.kept hg (by simp), gb_row0 h.gw hg, h.n⟩
/-- Behind an append onto the numbers: the matrix' own cells, what lay in W3, and the state behind the store. -/
theorem Col.app {W3 wr w1 : World} {B3 : Nat} {R C : Int} {k : Nat} {sl : Value} {ys : List Int} (h : Col W3 wr B3 R C k sl ys) {gg cap' : Nat} {x : Int}
    (ho : w1.ownsRow (B3 + 1) 3 1 (.slice (some ⟨gg, 0, none⟩) (k + 1) cap') (k + 1) (ints ys ++ [.int .i64 x])) (hg : wr.grownBy w1 sl.ownBlock) :
    Three w1 B3 (.int .i64 R) (.int .i64 C) sl ∧ W3.grownBy w1 (some B3) ∧ Col W3 (w1.setCell ⟨B3, 2, none⟩ (.slice (some ⟨gg, 0, none⟩) (k + 1) cap')) B3 R C (k + 1) (.slice (some ⟨gg, 0, none⟩) (k + 1) cap') (ys ++ [x]) := by
  have hrow : ∀ j, sl.ownBlock = some j → B3 + 1 ≤ j := fun j e => (h.own.lt j e).1
  have t3 := h.t3.kept hg (by intro e; have := hrow _ e.symm; omega)
  have gw : W3.grownBy w1 (some B3) := ⟨hg.os.trans h.gw.os, hg.tape.trans h.gw.tape, hg.output.trans h.gw.output, Nat.le_trans h.gw.size hg.size, fun i hi hne =>
    (hg.block i (Nat.lt_of_lt_of_le hi h.gw.size) (fun e => by have := hrow i e.symm; have := h.n; omega)).trans (h.gw.block i hi hne)⟩
  refine ⟨t3, gw, ⟨?_, ?_, gbt gw (gb_set w1 B3 2 _), h.n⟩⟩
  · have := ownsRow_setCell_below ho (a := ⟨B3, 2, none⟩) (by show B3 < B3 + 1; omega) (.slice (some ⟨gg, 0, none⟩) (k + 1) cap')
    simpa [ints] using this
  · exact ⟨(World.cell?_setCell_other _ _ _ _ (by simp)).trans t3.c0, (World.cell?_setCell_other _ _ _ _ (by simp)).trans t3.c1, World.cell?_setCell_same _ _ _ t3.c2,
      (World.frozen?_setCell _ _ _ _).trans t3.f0, (World.frozen?_setCell _ _ _ _).trans t3.f1, (World.frozen?_setCell _ _ _ _).trans t3.f2⟩
theorem range_succ_map {f : Nat → Int} {k : Nat} : (List.range (k + 1)).map f = (List.range k).map f ++ [f k] := by simp [List.range_succ]
theorem turn_row {xs : List Int} {R C c r : Nat} (h : r < R) : turnE xs R C (c * R + r) = xs.getD (r * C + c) 0 := by
  unfold turnE; rw [mod_of _ _ _ h, div_of _ _ _ h]

end Go.Proofs.Ytfnajbifdilfmaa
