/- The contracts of AddMatrices and SubMatrices, of the program and of the reference: each returns the matrix of sums or differences in new memory, the zero value where the matrices are not alike. Conditions: at most 2 to the 20 values for the reference's. -/
import Derived.Test.YthcochdkclmejaaCol
import Derived.Deep.RegionHeldLaw
namespace Go.Proofs.Ythcochdkclmejaa
open Go Go.RowKit

/-- Both matrices are valid and have the same sides. -/
def lk (r c : Int) (xs : List Int) (r' c' : Int) (ys : List Int) : Bool := mv r c xs && mv r' c' ys && decide (r = r') && decide (c = c')
def pN (q : Bool) (n : Int) : Int := if q then n else 0
def pV (q : Bool) (l : List Int) : List Int := if q then l else []
theorem lk_iff {r c r' c' : Int} {xs ys : List Int} : lk r c xs r' c' ys = true ↔ mv r c xs = true ∧ mv r' c' ys = true ∧ r = r' ∧ c = c' := by
  simp [lk, and_assoc]
theorem zip_range (f : Int → Int → Int) {xs ys : List Int} {n : Nat} (hx : xs.length = n) (hy : ys.length = n) : List.zipWith f xs ys = (List.range n).map fun i => f (xs.getD i 0) (ys.getD i 0) := by
  apply List.ext_getElem
  · simp [hx, hy]
  · intro i h1 h2
    have h3 : i < xs.length := by simp at h1; omega
    have h4 : i < ys.length := by simp at h1; omega
    simp [List.getD_eq_getElem?_getD, h3, h4]
theorem Sees.at_pos {w : World} {v : Value} {xs : List Int} (h : Sees w v xs) (hp : 0 < xs.length) : ∃ b o cap : Nat, v = .slice (some ⟨b, o, none⟩) xs.length cap ∧ ∀ k, k < xs.length → w.cell? ⟨b, o + k, none⟩ = some (.int .i64 (xs.getD k 0)) := by
  obtain ⟨a, cap, rfl, _, _, hc⟩ := h
  obtain ⟨blk, off, rfl, hcell⟩ := hc (by intro e; rw [e] at hp; simp at hp)
  exact ⟨blk, off, cap, rfl, hcell⟩
theorem Sees.form {w : World} {v : Value} {xs : List Int} (h : Sees w v xs) : ∃ a cap, v = .slice a xs.length cap := by
  obtain ⟨a, cap, e, _⟩ := h; exact ⟨a, cap, e⟩
theorem mvq (q : Bool) (r c : Int) (v : Value) (xs : List Int) (w : World) (h : Sees w v xs) (hq : mv r c xs = q) : Calls Try.prog 26 #[.agg #[.int .i64 r, .int .i64 c, v]] w fun e w' => e = .returned (.bool q) ∧ w.grownBy w' none := by
  subst hq; exact matrixValid r c v xs w h
theorem mvq_s (q : Bool) (r c : Int) (v : Value) (xs : List Int) (w : World) (h : Sees w v xs) (hq : mv r c xs = q) : Calls Try.prog 24 #[.agg #[.int .i64 r, .int .i64 c, v]] w fun e w' => e = .returned (.bool q) ∧ w.grownBy w' none := by
  subst hq; exact matrixValid_s r c v xs w h
/-- Three boxes of two matrices and of a zero result, the newest three blocks. -/
structure Box3 (w W : World) (r c r' c' : Int) (v v' : Value) : Prop where
  t1 : Three W w.heap.size (.int .i64 r) (.int .i64 c) v
  t2 : Three W (w.heap.size + 1) (.int .i64 r') (.int .i64 c') v'
  t3 : Three W (w.heap.size + 1 + 1) (.int .i64 0) (.int .i64 0) (.slice none 0 0)
  g0 : w.grownBy W none
  n : w.heap.size + 1 + 1 + 1 ≤ W.heap.size
theorem Box3.new (w : World) (r c r' c' : Int) (v v' : Value) (T : TypeId) :
    Box3 w (((w.alloc (.cells #[.int .i64 r, .int .i64 c, v] T)).alloc (.cells #[.int .i64 r', .int .i64 c', v'] T)).alloc (.cells #[.int .i64 0, .int .i64 0, .slice none 0 0] T)) r c r' c' v v' := by
  refine ⟨((Three.new w _ _ _ _).alloc _).alloc _, ?_, ?_, gbt (World.grownBy_alloc _ _ _) (gbt (World.grownBy_alloc _ _ _) (World.grownBy_alloc _ _ _)), by simp⟩
  · simpa using (Three.new (w.alloc (.cells #[.int .i64 r, .int .i64 c, v] T)) (.int .i64 r') (.int .i64 c') v' T).alloc (.cells #[.int .i64 0, .int .i64 0, .slice none 0 0] T)
  · simpa using Three.new ((w.alloc (.cells #[.int .i64 r, .int .i64 c, v] T)).alloc (.cells #[.int .i64 r', .int .i64 c', v'] T)) (.int .i64 0) (.int .i64 0) (.slice none 0 0) T
theorem Box3.kept {w W w' : World} {r c r' c' : Int} {v v' : Value} (h : Box3 w W r c r' c' v v') (hg : W.grownBy w' none) : Box3 w w' r c r' c' v v' :=
  ⟨h.t1.kept hg (by simp), h.t2.kept hg (by simp), h.t3.kept hg (by simp), gbt h.g0 hg, Nat.le_trans h.n hg.size⟩
theorem sameSides (q : Bool) (r c r' c' : Int) (v v' : Value) (w : World) (hq : (decide (r = r') && decide (c = c')) = q) :
    Calls Try.prog 73 #[.agg #[.int .i64 r, .int .i64 c, v], .agg #[.int .i64 r', .int .i64 c', v']] w fun e w' => e = .returned (.bool q) ∧ w.grownBy w' none := by
  have G0 : w.grownBy ((w.alloc (.cells #[.int .i64 r, .int .i64 c, v] 39)).alloc (.cells #[.int .i64 r', .int .i64 c', v'] 39)) none := gbt (World.grownBy_alloc _ _ _) (World.grownBy_alloc _ _ _)
  by_cases hr : r = r'
  · have h1 : (r == r') = true := by simp [hr]
    by_cases hc : c = c'
    · have h2 : (c == c') = true := by simp [hc]
      obtain rfl : q = true := by rw [← hq]; simp [hr, hc]
      clear hr hc hq
      go_enter Try.func73, Try.ntmps73
      go_wp2
      go_ret
      exact ⟨rfl, G0⟩
    · have h2 : (c == c') = false := by simp [hc]
      obtain rfl : q = false := by rw [← hq]; simp [hc]
      clear hr hc hq
      go_enter Try.func73, Try.ntmps73
      go_wp2
      go_ret
      exact ⟨rfl, G0⟩
  · have h1 : (r == r') = false := by simp [hr]
    obtain rfl : q = false := by rw [← hq]; simp [hr]
    clear hr hq
    go_enter Try.func73, Try.ntmps73
    go_wp2
    go_ret
    exact ⟨rfl, G0⟩
/-- The state of a matrix that is filled value by value: the numbers at the places in D stand. -/
structure PS (w : World) (b0 B g N : Nat) (r c r' c' R C : Int) (v v' : Value) (E : Nat → Int) (wr : World) (D : Nat → Bool) : Prop where
  own : wr.ownsRow b0 3 1 (.slice (some ⟨g, 0, none⟩) N N) N (ints (part E (fun _ => 0) N D))
  bx : Box3 w wr r c r' c' v v'
  t4 : Three wr B (.int .i64 R) (.int .i64 C) (.slice (some ⟨g, 0, none⟩) N N)
  n1 : w.heap.size + 1 + 1 + 1 ≤ g
  n2 : g ≠ B
  n3 : w.heap.size + 1 + 1 + 1 ≤ B
theorem PS.kept {w : World} {b0 B g N : Nat} {r c r' c' R C : Int} {v v' : Value} {E : Nat → Int} {wr w' : World} {D : Nat → Bool} (h : PS w b0 B g N r c r' c' R C v v' E wr D) (hg : wr.grownBy w' none) : PS w b0 B g N r c r' c' R C v v' E w' D :=
  ⟨own_kept h.own hg, h.bx.kept hg, h.t4.kept hg (by simp), h.n1, h.n2, h.n3⟩
theorem PS.congr {w : World} {b0 B g N : Nat} {r c r' c' R C : Int} {v v' : Value} {E : Nat → Int} {wr : World} {D D' : Nat → Bool} (h : PS w b0 B g N r c r' c' R C v v' E wr D) (e : ∀ i, i < N → D i = D' i) : PS w b0 B g N r c r' c' R C v v' E wr D' :=
  ⟨by rw [← part_congr e]; exact h.own, h.bx, h.t4, h.n1, h.n2, h.n3⟩
theorem PS.store {w : World} {b0 B g N : Nat} {r c r' c' R C : Int} {v v' : Value} {E : Nat → Int} {wr : World} {D D' : Nat → Bool} (h : PS w b0 B g N r c r' c' R C v v' E wr D) (j : Nat) (x : Int) (hx : x = E j) (hD : ∀ i, i < N → D' i = (D i || i == j)) :
    PS w b0 B g N r c r' c' R C v v' E (wr.setCell ⟨g, j, none⟩ (.int .i64 x)) D' := by
  subst hx
  obtain ⟨s1, s2⟩ := own_stored h.own j (E j)
  rw [part_set (D' := D') hD] at s1
  have n1 := h.n1
  have n2 := h.n2
  exact ⟨s1, ⟨h.bx.t1.kept s2 (by simp; omega), h.bx.t2.kept s2 (by simp; omega), h.bx.t3.kept s2 (by simp; omega), gb_setNew h.bx.g0 (by omega) _ _, Nat.le_trans h.bx.n s2.size⟩, h.t4.kept s2 (by simp; omega), h.n1, h.n2, h.n3⟩
end Go.Proofs.Ythcochdkclmejaa
