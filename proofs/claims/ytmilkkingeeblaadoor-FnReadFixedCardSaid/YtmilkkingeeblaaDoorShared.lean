/- The contracts of the shared numbers' functions, of the program and of the reference: each returns what the plain definition says and makes new memory at most. Conditions: none beyond integers of 64 bits. -/
import Derived.Test.YtmilkkingeeblaaDoorRing
import Derived.Deep.RegionHeld3
namespace Go.Proofs.YtmilkkingeeblaaDoor
open Go Go.RowKit

theorem bcell {W w1 : World} (hb : Below W.heap.size W w1) : (∀ b o, b < W.heap.size → w1.cell? ⟨b, o, none⟩ = W.cell? ⟨b, o, none⟩) ∧ (∀ b o, b < W.heap.size → w1.frozen? ⟨b, o, none⟩ = W.frozen? ⟨b, o, none⟩) :=
  ⟨fun b o h => hb.cell (p := ⟨b, o, none⟩) h, fun b o h => hb.frozen (p := ⟨b, o, none⟩) h⟩
theorem bt {w W w1 : World} (h : Below w.heap.size w W) (hb : Below W.heap.size W w1) : Below w.heap.size w w1 := h.trans (hb.mono h.size)

theorem gb_setNew {w W : World} {row : Option Nat} (h : w.grownBy W row) {B : Nat} (hB : w.heap.size ≤ B) (o : Nat) (v : Value) : w.grownBy (W.setCell ⟨B, o, none⟩ v) row :=
  ⟨h.os, h.tape, h.output, by simpa using h.size, fun k hk hne => (Below.heap_setCell _ _ _ k (fun e => by simp at e; omega)).trans (h.block k hk hne)⟩
theorem gb_below {w w' : World} (h : w.grownBy w' none) : Below w.heap.size w w' := ⟨h.os, h.tape, h.output, h.size, fun k hk => h.block k hk (by simp)⟩
theorem below_gb {w w' : World} (h : Below w.heap.size w w') : w.grownBy w' none := ⟨h.os, h.tape, h.output, h.size, fun k hk _ => h.block k hk⟩

/-- A block of two cells of one's own. -/
structure Two (w : World) (B : Nat) (x y : Value) : Prop where
  c0 : w.cell? ⟨B, 0, none⟩ = some x
  c1 : w.cell? ⟨B, 1, none⟩ = some y
  f0 : w.frozen? ⟨B, 0, none⟩ = false
  f1 : w.frozen? ⟨B, 1, none⟩ = false
theorem Two.new (w : World) (x y : Value) (T : TypeId) : Two (w.alloc (.cells #[x, y] T)) w.heap.size x y :=
  ⟨by rw [World.cell?_alloc_at _ _ _ _ rfl]; rfl, by rw [World.cell?_alloc_at _ _ _ _ rfl]; rfl, World.frozen?_alloc_at _ _ _ _ rfl, World.frozen?_alloc_at _ _ _ _ rfl⟩
theorem Two.kept {w w' : World} {B : Nat} {x y : Value} {row : Option Nat} (h : Two w B x y) (hg : w.grownBy w' row) (hne : some B ≠ row) : Two w' B x y := by
  have hlt : B < w.heap.size := World.block_lt_of_cell? w _ h.c0
  exact ⟨hg.cell h.c0 hne, hg.cell h.c1 hne, (World.frozen?_of_block (w := w) (hg.block B hlt hne)).trans h.f0, (World.frozen?_of_block (w := w) (hg.block B hlt hne)).trans h.f1⟩
theorem Two.alloc {w : World} {B : Nat} {x y : Value} (h : Two w B x y) (o : Obj) : Two (w.alloc o) B x y := h.kept (World.grownBy_alloc w o none) (by simp)
theorem Two.lt {w : World} {B : Nat} {x y : Value} (h : Two w B x y) : B < w.heap.size := World.block_lt_of_cell? w _ h.c0

/-- What the walk is told of a slice of integers that came in: it is nil; or it leads to a row of 'cap' cells, the numbers 'zs' (the first 'len' are its elements), each fitting its kind. -/
def IsRow (k : IntKind) (w : World) (a : Option Addr) (len cap : Nat) (zs : List Int) : Prop :=
  (a = none ∧ len = 0 ∧ cap = 0 ∧ zs = []) ∨
  ∃ x, a = some x ∧ len ≤ cap ∧ cap ≤ maxLen ∧ zs.length = cap ∧ (∀ i, i < zs.length → w.cell? (x.add i) = some (.int k (zs.getD i 0))) ∧ ∀ n ∈ zs, (Lit.int k n).wf = true

theorem IsRow.kept {k : IntKind} {w w' : World} {a : Option Addr} {len cap : Nat} {zs : List Int} (h : IsRow k w a len cap zs) (hg : w.grownBy w' none) : IsRow k w' a len cap zs := by
  rcases h with h | ⟨x, e1, e2, e3, e4, e5, e6⟩
  · exact .inl h
  · exact .inr ⟨x, e1, e2, e3, e4, fun i hi => hg.cell (e5 i hi) (by simp), e6⟩

end Go.Proofs.YtmilkkingeeblaaDoor
