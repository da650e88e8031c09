/- The contracts of matrices: copies, comparisons, marks. Each returns what the plain definition says; new memory at most, but for marks. Conditions: at most 2 to the 20 values where they are copied or marked. -/
import Derived.Test.YthcochdkclmejaaMat
namespace Go.Proofs.Ythcochdkclmejaa
open Go Go.RowKit

set_option maxHeartbeats 400000 in
theorem toMatrix (r c : Int) (v : Value) (xs : List Int) (w : World) (h : Sees w v xs) (hn : xs.length ≤ 1048576) :
    Calls Try.prog 25 #[.agg #[.int .i64 r, .int .i64 c, v]] w fun e w' => ∃ v', e = .returned (.agg #[.int .i64 r, .int .i64 c, v']) ∧ w'.ownsRow w.heap.size 3 1 v' xs.length (ints xs) ∧ w.grownBy w' none := by
  obtain ⟨W, hW⟩ : ∃ W, W = ((w.alloc (.cells #[.int .i64 r, .int .i64 c, v] 36)).alloc (.cells #[.int .i64 0, .int .i64 0, .slice none 0 0] 39)).alloc (.cells #[.int .i64 r, .int .i64 c, .slice none 0 0] 39) := ⟨_, rfl⟩
  have T2 : Three W (w.heap.size + 1) (.int .i64 0) (.int .i64 0) (.slice none 0 0) := by
    rw [hW]; simpa using (Three.new (w.alloc (.cells #[.int .i64 r, .int .i64 c, v] 36)) (.int .i64 0) (.int .i64 0) (.slice none 0 0) 39).alloc (.cells #[.int .i64 r, .int .i64 c, .slice none 0 0] 39)
  have T3 : Three W (w.heap.size + 1 + 1) (.int .i64 r) (.int .i64 c) (.slice none 0 0) := by
    rw [hW]; simpa using Three.new ((w.alloc (.cells #[.int .i64 r, .int .i64 c, v] 36)).alloc (.cells #[.int .i64 0, .int .i64 0, .slice none 0 0] 39)) (.int .i64 r) (.int .i64 c) (.slice none 0 0) 39
  have G1 : w.grownBy W none := by rw [hW]; exact gbt (World.grownBy_alloc _ _ _) (gbt (World.grownBy_alloc _ _ _) (World.grownBy_alloc _ _ _))
  have hz : W.heap.size = w.heap.size + 3 := by rw [hW]; simp
  have C1 := toIntS v xs W (h.kept G1) hn
  rw [hW] at C1
  rw [hW] at T2 T3 G1 hz
  clear hW
  go_enter Try.func25, Try.ntmps25
  go_wp2_with fail
  refine C1.mono ?_
  clear C1
  rintro e w1 ⟨v', rfl, ho, hg⟩
  obtain ⟨a', cap', rfl⟩ := own_slice ho
  replace T2 := T2.kept hg (by simp)
  replace T3 := T3.kept hg (by simp)
  have G2 := gbt G1 hg
  rw [hz] at ho
  have hz1 : w.heap.size + 3 ≤ w1.heap.size := by have := hg.size; rw [hz] at this; exact this
  clear G1 hg hz
  obtain ⟨p0, p1, p2, p3, p4, p5⟩ := T2
  obtain ⟨q0, q1, q2, q3, q4, q5⟩ := T3
  go_wp2
  exact bodyPost_ret (v := .agg #[.int .i64 r, .int .i64 c, .slice a' xs.length cap']) (by simp [results, Try.results25, go_sem, p0, p1, p2]) rfl ⟨_, rfl,
    own_base (b := w.heap.size + 3) (by repeat (first | exact ho | (refine ownsRow_setCell_below ?_ (by first | (simp; done) | (simp; omega)) _))) (by omega),
    by repeat (first | exact G2 | (refine gb_setNew ?_ (by omega) _ _))⟩
theorem szMatrix (r c : Int) (v : Value) (xs : List Int) (left left' : Int) (w : World) (h : Sees w v xs) (hl : 0 ≤ left ∧ left ≤ 1048576) (hl' : szL xs left = left') :
    Calls Try.prog 23 #[.agg #[.int .i64 r, .int .i64 c, v], .int .i64 left] w fun e w' => e = .returned (.int .i64 left') ∧ w.grownBy w' none := by
  subst hl'
  have G1 : w.grownBy (w.alloc (.cells #[.int .i64 r, .int .i64 c, v] 36)) none := World.grownBy_alloc _ _ _
  have h1 := h.kept G1
  by_cases hlt : szL xs left < 0
  · have e : Hid (szL xs left = -1) := by unfold szL at hlt ⊢; split at hlt <;> (unfold Hid; split <;> omega)
    go_enter Try.func23, Try.ntmps23
    go_wp2_with (go_at_call 60; refine (szIntS _ _ _ _ h1 hl).mono ?_; rintro e w' ⟨rfl, rfl⟩)
    go_ret
    exact ⟨ret_int e.out.symm, G1⟩
  · go_enter Try.func23, Try.ntmps23
    go_wp2_with (go_at_call 60; refine (szIntS _ _ _ _ h1 hl).mono ?_; rintro e w' ⟨rfl, rfl⟩)
    go_ret
    exact ⟨rfl, G1⟩
theorem eqMatrix (r c : Int) (v v' : Value) (xs : List Int) (w : World) (h : Sees w v xs) (h' : Sees w v' xs) :
    Calls Try.prog 27 #[.agg #[.int .i64 r, .int .i64 c, v], .agg #[.int .i64 r, .int .i64 c, v']] w fun e w' => e = .returned (.bool true) ∧ w.grownBy w' none := by
  have G1 : w.grownBy ((w.alloc (.cells #[.int .i64 r, .int .i64 c, v] 39)).alloc (.cells #[.int .i64 r, .int .i64 c, v'] 39)) none := gbt (World.grownBy_alloc _ _ _) (World.grownBy_alloc _ _ _)
  have h1 := h.kept G1
  have h2 := h'.kept G1
  have hr : (r != r) = false := by simp
  have hc : (c != c) = false := by simp
  go_enter Try.func27, Try.ntmps27
  go_wp2_with (go_at_call 31; refine (eqIntS _ _ _ _ h1 h2).mono ?_; rintro e w' ⟨rfl, hg⟩)
  go_ret
  exact ⟨rfl, gbt G1 (by assumption)⟩
theorem sameMatrix (r c : Int) (v v' : Value) (xs : List Int) (w : World) (h : Sees w v xs) (h' : Sees w v' xs) :
    Calls Try.prog 41 #[.agg #[.int .i64 r, .int .i64 c, v], .agg #[.int .i64 r, .int .i64 c, v']] w fun e w' => e = .returned (.bool true) ∧ w.grownBy w' none := by
  have G1 : w.grownBy ((w.alloc (.cells #[.int .i64 r, .int .i64 c, v] 39)).alloc (.cells #[.int .i64 r, .int .i64 c, v'] 39)) none := gbt (World.grownBy_alloc _ _ _) (World.grownBy_alloc _ _ _)
  have h1 := h.kept G1
  have h2 := h'.kept G1
  have hr : (r == r) = true := by simp
  have hc : (c == c) = true := by simp
  go_enter Try.func41, Try.ntmps41
  go_wp2_with (go_at_call 35; refine (sameInts _ _ _ _ h1 h2).mono ?_; rintro e w' ⟨rfl, hg⟩)
  go_ret
  exact ⟨rfl, gbt G1 (by assumption)⟩
theorem markMatrix (r c : Int) (base n : Nat) (v : Value) (xs : List Int) (k0 : Int) (w : World) (h : w.ownsRow base 3 1 v n (ints xs)) (hn : n ≤ 4194304) (hk0 : 0 ≤ k0 ∧ k0 ≤ 1099511627776) :
    Calls Try.prog 38 #[.agg #[.int .i64 r, .int .i64 c, v], .int .i64 k0] w fun e w' => e = .returned (.int .i64 (k0 + n)) ∧ w'.ownsRow base 3 1 v n (ints (upFrom k0 n)) ∧ w.grownBy w' v.ownBlock := by
  have G1 : w.grownBy (w.alloc (.cells #[.int .i64 r, .int .i64 c, v] 39)) v.ownBlock := World.grownBy_alloc _ _ _
  have h1 := h.alloc (.cells #[.int .i64 r, .int .i64 c, v] 39)
  go_enter Try.func38, Try.ntmps38
  go_wp2_with fail
  refine (markIntS base n v xs k0 _ h1 hn hk0).mono ?_
  rintro e w1 ⟨rfl, ho, hg⟩
  go_wp2
  go_ret
  exact ⟨rfl, ho, gbt G1 hg⟩
theorem heldMatrix (r c : Int) (n : Nat) (v : Value) (k0 : Int) (w : World) (h : Sees w v (upFrom k0 n)) (hn : n ≤ 4194304) (hk0 : 0 ≤ k0 ∧ k0 ≤ 1099511627776) :
    Calls Try.prog 39 #[.agg #[.int .i64 r, .int .i64 c, v], .int .i64 k0] w fun e w' => e = .returned (.int .i64 (k0 + n)) ∧ w.grownBy w' none := by
  have G1 : w.grownBy (w.alloc (.cells #[.int .i64 r, .int .i64 c, v] 39)) none := World.grownBy_alloc _ _ _
  have h1 := h.kept G1
  obtain ⟨m1, m2⟩ := hk0
  have hp : ¬ k0 + (n : Int) < 0 := by omega
  go_enter Try.func39, Try.ntmps39
  go_wp2_with (go_at_call 33; refine (heldIntS n _ k0 _ h1 hn ⟨m1, m2⟩).mono ?_; rintro e w' ⟨rfl, rfl⟩)
  go_ret
  exact ⟨rfl, G1⟩
end Go.Proofs.Ythcochdkclmejaa
