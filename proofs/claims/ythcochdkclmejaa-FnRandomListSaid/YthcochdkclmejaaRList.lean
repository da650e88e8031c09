/- The contract of the program's RandomList: a new list of the ring numbers behind a seed and the last seed; nil and 0 for other arguments. Conditions: none. -/
import Derived.Test.YthcochdkclmejaaStream
namespace Go.Proofs.Ythcochdkclmejaa
open Go Go.RowKit Go.Shelf

attribute [local go_sem] Oper.semAt_some

/-- A range over a function at an outermost loop: the record is laid, the function is called. -/
theorem range_wide {P : Program} {g : Operand} {ps : Array Tmp} {assign body : Code} {Q : Exit → Act → World → Prop} {a : Act} {w : World} {n gf : Nat} {lb : Array Value} (hg : a.eval g = .func (.func gf) #[] lb) (eg : ∀ args w, (callFunc gf args).run P w = .ok (.enter gf args) w)
    (h : ∀ (fn : FuncId) (rec : LoopState → Option Code → Loop), rec = (fun st pe => { state := st, pending := pe, fn, tmps := a.tmps, params := ps, assign, body, defers := w.heap.size }) →
      CallsIn Fence.wide (n - 1) P gf (#[.func (.yield (w.heap.size + 1)) #[] #[]] ++ lb) ((w.alloc (.deferred (some []))).alloc (.loop (rec .ready none))) (rangePost Fence.wide n P (w.heap.size + 1) Q { a with defers := [{ target := .collected w.heap.size, args := #[] }] ++ a.defers })) :
    (Code.rangeFunc g ps assign body).wpIn Fence.wide n P Q a w := by
  refine wpIn_rangeFunc ?_
  intro fn _
  obtain ⟨rec, hrec⟩ : ∃ rec : LoopState → Option Code → Loop, rec = fun st pe => { state := st, pending := pe, fn, tmps := a.tmps, params := ps, assign, body, defers := w.heap.size } := ⟨_, rfl⟩
  have h1 := h fn rec hrec
  obtain ⟨W1, hW1⟩ : ∃ W1, (w.alloc (.deferred (some []))).alloc (.loop (rec .ready none)) = W1 := ⟨_, rfl⟩
  rw [hW1] at h1
  clear h
  refine ⟨w.heap.size + 1, [{ target := .collected w.heap.size, args := #[] }], W1, { target := .fn (.func gf) lb, args := #[.func (.yield (w.heap.size + 1)) #[] #[]] }, W1, gf,
    #[.func (.yield (w.heap.size + 1)) #[] #[]] ++ lb, W1, ?_, ?_, ?_, ?_, (fun h => by cases h), ?_⟩
  · rw [← hW1, hrec]; exact run_enterLoop_outer _ _ _ _ _
  · simp only [resolve, hg]
    simp [go_sem]
  · intro f' _; trivial
  · simp [invoke, go_sem, eg]
  · exact h1

/-- Between two rounds: k numbers stand; 'sd' is what the stream's own cell holds. -/
structure RL (w : World) (L n : Nat) (s : Int) (k : Nat) (sd : Int) (W : World) : Prop where
  list : Boxed W L 34 (.slice (some ⟨w.heap.size + 1, 0, none⟩) k n)
  row : W.ownsRow (w.heap.size + 1) 3 1 (.slice (some ⟨w.heap.size + 1, 0, none⟩) k n) k (ints (rlist s k))
  many : Boxed W w.heap.size 3 (.int .i64 n)
  last : Boxed W (L + 1) 3 (.int .i64 (rseed s k))
  seed : Boxed W (L + 1 + 1) 3 (.int .i64 sd)
  below : Below w.heap.size w W
  b2 : w.heap.size + 1 < L
theorem RL.putObj {w W : World} {L n k : Nat} {s sd : Int} (h : RL w L n s k sd W) (l : Nat) (o o' : Obj) (ho : W.heap[l]? = some o) (hc : o.isCells = false) (hl : w.heap.size ≤ l) : RL w L n s k sd (W.putObj l o') := by
  have hg := grownBy_putObj' W l o'
  have hne : ∀ (B : Nat) (t : TypeId) (v : Value), Boxed W B t v → some B ≠ some l := by
    intro B t v hb e
    obtain rfl : B = l := by simpa using e
    rw [show W.heap[B]? = _ from hb] at ho
    cases ho
    cases hc
  exact ⟨h.list.kept hg (hne _ _ _ h.list), ownsRow_putObj h.row o' ho hc, h.many.kept hg (hne _ _ _ h.many), h.last.kept hg (hne _ _ _ h.last), h.seed.kept hg (hne _ _ _ h.seed),
    h.below.grown hg h.below.size (fun j e => by cases e; exact hl), h.b2⟩
theorem RL.setSeed {w W : World} {L n k : Nat} {s sd : Int} (h : RL w L n s k sd W) (sd' : Int) : RL w L n s k sd' (W.setCell ⟨L + 1 + 1, 0, none⟩ (.int .i64 sd')) := by
  have hg := grownBy_setCell' W (L + 1 + 1) (.int .i64 sd')
  have b2 := h.b2
  exact ⟨h.list.kept hg (by simp; omega), h.row.kept hg (.inr (by simp [Value.ownBlock]; omega)), h.many.kept hg (by simp; omega), h.last.kept hg (by simp), h.seed.set _, h.below.setCell (p := ⟨L + 1 + 1, 0, none⟩) (by show w.heap.size ≤ L + 1 + 1; omega) _, h.b2⟩
/-- A round: the number is appended, the last seed noted. -/
theorem RL.round {w W w1 : World} {L n k : Nat} {s sd : Int} {tmp : Obj} (h : RL w L n s k sd W) 
    (ho : w1.ownsRow (w.heap.size + 1) 3 1 (.slice (some ⟨w.heap.size + 1, 0, none⟩) (k + 1) n) (k + 1) (ints (rlist s k) ++ [.int .i64 (rseed s (k + 1) / 8 % 4096)])) (hg : (W.alloc tmp).grownBy w1 (some (w.heap.size + 1))) :
    Boxed w1 L 34 (.slice (some ⟨w.heap.size + 1, 0, none⟩) k n) ∧ Boxed w1 (L + 1) 3 (.int .i64 (rseed s k)) ∧
    RL w L n s (k + 1) sd ((w1.setCell ⟨L, 0, none⟩ (.slice (some ⟨w.heap.size + 1, 0, none⟩) (k + 1) n)).setCell ⟨L + 1, 0, none⟩ (.int .i64 (rseed s (k + 1)))) := by
  have b2 := h.b2
  have bl := (h.list.alloc tmp).kept hg (by simp; omega)
  have ba := (h.last.alloc tmp).kept hg (by simp; omega)
  have bs := (h.seed.alloc tmp).kept hg (by simp; omega)
  have bm := (h.many.alloc tmp).kept hg (by simp)
  have g1 := grownBy_setCell' w1 L (.slice (some ⟨w.heap.size + 1, 0, none⟩) (k + 1) n)
  have g2 := grownBy_setCell' (w1.setCell ⟨L, 0, none⟩ (.slice (some ⟨w.heap.size + 1, 0, none⟩) (k + 1) n)) (L + 1) (.int .i64 (rseed s (k + 1)))
  have hb : Below w.heap.size w w1 := (h.below.alloc h.below.size tmp).grown hg (by have := h.below.size; simp; omega) (fun j e => by cases e; omega)
  refine ⟨bl, ba, ⟨(bl.set _).kept g2 (by simp), ?_, (bm.kept g1 (by simp; omega)).kept g2 (by simp; omega), ((ba.kept g1 (by simp)).set _), (bs.kept g1 (by simp; omega)).kept g2 (by simp), ?_, h.b2⟩⟩
  · have h1 := (ho.kept g1 (.inr (by simp [Value.ownBlock]; omega))).kept g2 (.inr (by simp [Value.ownBlock]; omega))
    rw [rlist_succ]
    simpa [ints] using h1
  · exact (hb.setCell (p := ⟨L, 0, none⟩) (by show w.heap.size ≤ L; omega) _).setCell (p := ⟨L + 1, 0, none⟩) (by show w.heap.size ≤ L + 1; omega) _
end Go.Proofs.Ythcochdkclmejaa
