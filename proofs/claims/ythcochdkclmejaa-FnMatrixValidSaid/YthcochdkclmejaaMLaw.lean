/- The contracts of the draws of matrices for the laws: a matrix in new memory, nothing that was there turned. Conditions: the code is a readable slice of bytes. -/
import Derived.Test.YthcochdkclmejaaMDraw
namespace Go.Proofs.Ythcochdkclmejaa
open Go Go.RowKit

/-- A drawn matrix in new memory. -/
def DrawsMat (w : World) (e : Ending) (w' : World) : Prop :=
  ∃ (r c : Int) (a : Option Addr) (cap : Nat) (xs : List Int), e = .returned (.agg #[.int .i64 r, .int .i64 c, .slice a xs.length cap]) ∧ I64 r ∧ I64 c ∧ xs.length ≤ 36 ∧ 1 ≤ xs.length ∧ w'.ownsRow w.heap.size 3 1 (.slice a xs.length cap) xs.length (ints xs) ∧ w.grownBy w' none
/-- Two drawn matrices in new memory. -/
def DrawsTwo (w : World) (e : Ending) (w' : World) : Prop :=
  ∃ (r c : Int) (a : Option Addr) (cap : Nat) (xs : List Int) (r' c' : Int) (a' : Option Addr) (cap' : Nat) (ys : List Int) (k : Nat),
    e = .returned (.agg #[.agg #[.int .i64 r, .int .i64 c, .slice a xs.length cap], .agg #[.int .i64 r', .int .i64 c', .slice a' ys.length cap']]) ∧ I64 r ∧ I64 c ∧ xs.length ≤ 36 ∧ I64 r' ∧ I64 c' ∧ ys.length ≤ 36 ∧ 1 ≤ xs.length ∧ 1 ≤ ys.length ∧
    w'.ownsRow w.heap.size 3 1 (.slice a xs.length cap) xs.length (ints xs) ∧ w'.ownsRow k 3 1 (.slice a' ys.length cap') ys.length (ints ys) ∧ w.grownBy w' none ∧ w.heap.size ≤ k ∧ (∀ q, (.slice a xs.length cap : Value).ownBlock = some q → w.heap.size ≤ q ∧ q < k)

theorem drawMatrixValid (a : Option Addr) (n cap : Nat) (z : List Int) (w : World) (h : IsRow .u8 w a n cap z) : Calls Try.prog 28 #[.slice a n cap] w (DrawsMat w) := by
  have G0 : w.grownBy (w.alloc (.cells #[.int .i64 0, .int .i64 0, .slice none 0 0] 39)) none := World.grownBy_alloc _ _ _
  have T0 := Three.new w (.int .i64 0) (.int .i64 0) (.slice none 0 0) 39
  have h0 := h.kept G0
  go_enter Try.func28, Try.ntmps28
  go_wp2_with fail
  refine (l20Open a n cap z _ h0).mono ?_
  rintro e w1 ⟨n', b, rfl, hr1, hg1⟩
  go_wp2_with fail
  refine (l20Side hr1 (by decide)).mono ?_
  rintro e w2 ⟨v, ⟨x, rfl, lx, ux⟩, rfl, hr2, hg2⟩
  go_wp2_with fail
  refine (l20Side hr2 (by decide)).mono ?_
  rintro e w3 ⟨v, ⟨y, rfl, ly, uy⟩, rfl, hr3, hg3⟩
  go_wp2_with fail
  refine (l20Matrix hr3 (by decide) x y 2 ⟨lx, ux⟩ ⟨ly, uy⟩ (by decide)).mono ?_
  rintro e w4 ⟨v, ⟨r, c, a4, cap4, xs, rfl, ir, ic, hl, hl1, ho⟩, rfl, hr4, hg4⟩
  have hz := hr3.below.size
  simp at hz
  replace T0 := T0.kept (below_gb hr4.below) (by simp)
  replace G0 := gbt G0 (below_gb hr4.below)
  obtain ⟨p0, p1, p2, p3, p4, p5⟩ := T0
  clear hr1 hr2 hr3 hr4 hg1 hg2 hg3 hg4
  go_wp2_with fail
  exact bodyPost_ret (v := .agg #[.int .i64 r, .int .i64 c, .slice a4 xs.length cap4]) (by simp [results, Try.results28, go_sem, p0, p1, p2]) rfl ⟨r, c, a4, cap4, xs, rfl, ir, ic, hl, hl1, own_base (b := w3.heap.size) (by repeat (first | exact ho | (refine ownsRow_setCell_below ?_ (by show w.heap.size < w3.heap.size; omega) _))) (by omega), by repeat (first | exact G0 | (refine gb_setNew ?_ (Nat.le_refl _) _ _))⟩
theorem drawTurnMatrix (a : Option Addr) (n cap : Nat) (z : List Int) (w : World) (h : IsRow .u8 w a n cap z) : Calls Try.prog 47 #[.slice a n cap] w (DrawsMat w) := by
  have G0 : w.grownBy (w.alloc (.cells #[.int .i64 0, .int .i64 0, .slice none 0 0] 39)) none := World.grownBy_alloc _ _ _
  have T0 := Three.new w (.int .i64 0) (.int .i64 0) (.slice none 0 0) 39
  have h0 := h.kept G0
  go_enter Try.func47, Try.ntmps47
  go_wp2_with fail
  refine (l20Open a n cap z _ h0).mono ?_
  rintro e w1 ⟨n', b, rfl, hr1, hg1⟩
  go_wp2_with fail
  refine (l20Side hr1 (by decide)).mono ?_
  rintro e w2 ⟨v, ⟨x, rfl, lx, ux⟩, rfl, hr2, hg2⟩
  go_wp2_with fail
  refine (l20Side hr2 (by decide)).mono ?_
  rintro e w3 ⟨v, ⟨y, rfl, ly, uy⟩, rfl, hr3, hg3⟩
  go_wp2_with fail
  refine (l20Matrix hr3 (by decide) x y 9 ⟨lx, ux⟩ ⟨ly, uy⟩ (by decide)).mono ?_
  rintro e w4 ⟨v, ⟨r, c, a4, cap4, xs, rfl, ir, ic, hl, hl1, ho⟩, rfl, hr4, hg4⟩
  have hz := hr3.below.size
  simp at hz
  replace T0 := T0.kept (below_gb hr4.below) (by simp)
  replace G0 := gbt G0 (below_gb hr4.below)
  obtain ⟨p0, p1, p2, p3, p4, p5⟩ := T0
  clear hr1 hr2 hr3 hr4 hg1 hg2 hg3 hg4
  go_wp2_with fail
  exact bodyPost_ret (v := .agg #[.int .i64 r, .int .i64 c, .slice a4 xs.length cap4]) (by simp [results, Try.results47, go_sem, p0, p1, p2]) rfl ⟨r, c, a4, cap4, xs, rfl, ir, ic, hl, hl1, own_base (b := w3.heap.size) (by repeat (first | exact ho | (refine ownsRow_setCell_below ?_ (by show w.heap.size < w3.heap.size; omega) _))) (by omega), by repeat (first | exact G0 | (refine gb_setNew ?_ (Nat.le_refl _) _ _))⟩
end Go.Proofs.Ythcochdkclmejaa
