/- The contract of the reference's l3Like, and what lies behind the reference's copies of two matrices. Conditions: none. -/
import Derived.Test.YthcochdkclmejaaPair
namespace Go.Proofs.Ythcochdkclmejaa
open Go Go.RowKit

/-- Behind the reference's copies of both matrices. -/
structure Pre (w W : World) (r c r' c' : Int) (a a' : Option Addr) (cap cap' : Nat) (xs ys : List Int) : Prop where
  bx : Box3 w W r c r' c' (.slice a xs.length cap) (.slice a' ys.length cap')
  o1 : W.ownsRow (w.heap.size + 1 + 1 + 1) 3 1 (.slice a xs.length cap) xs.length (ints xs)
  o2 : W.ownsRow (w.heap.size + 1 + 1 + 1) 3 1 (.slice a' ys.length cap') ys.length (ints ys)
theorem Pre.kept {w W W' : World} {r c r' c' : Int} {a a' : Option Addr} {cap cap' : Nat} {xs ys : List Int} (h : Pre w W r c r' c' a a' cap cap' xs ys) (hg : W.grownBy W' none) : Pre w W' r c r' c' a a' cap cap' xs ys :=
  ⟨h.bx.kept hg, own_kept h.o1 hg, own_kept h.o2 hg⟩
theorem Box3.set1 {w W : World} {r c r' c' : Int} {v v' : Value} (h : Box3 w W r c r' c' v v') (z : Value) :
    Box3 w (((W.setCell ⟨w.heap.size, 0, none⟩ (.int .i64 r)).setCell ⟨w.heap.size, 1, none⟩ (.int .i64 c)).setCell ⟨w.heap.size, 2, none⟩ z) r c r' c' z v' := by
  obtain ⟨t, g⟩ := h.t1.set (.int .i64 r) (.int .i64 c) z
  exact ⟨t, h.t2.kept g (by simp), h.t3.kept g (by simp; omega), gb_none h.g0 g (fun k e => by cases e; omega), Nat.le_trans h.n g.size⟩
theorem Box3.set2 {w W : World} {r c r' c' : Int} {v v' : Value} (h : Box3 w W r c r' c' v v') (z : Value) :
    Box3 w (((W.setCell ⟨w.heap.size + 1, 0, none⟩ (.int .i64 r')).setCell ⟨w.heap.size + 1, 1, none⟩ (.int .i64 c')).setCell ⟨w.heap.size + 1, 2, none⟩ z) r c r' c' v z := by
  obtain ⟨t, g⟩ := h.t2.set (.int .i64 r') (.int .i64 c') z
  exact ⟨h.t1.kept g (by simp), t, h.t3.kept g (by simp), gb_none h.g0 g (fun k e => by cases e; omega), Nat.le_trans h.n g.size⟩
theorem own_set3 {W : World} {base n B : Nat} {v x y z : Value} {l : List Value} (h : W.ownsRow base 3 1 v n l) (hB : B < base) :
    (((W.setCell ⟨B, 0, none⟩ x).setCell ⟨B, 1, none⟩ y).setCell ⟨B, 2, none⟩ z).ownsRow base 3 1 v n l :=
  ownsRow_setCell_below (ownsRow_setCell_below (ownsRow_setCell_below h (by exact hB) _) (by exact hB) _) (by exact hB) _
theorem l3Like (q : Bool) (r c r' c' : Int) (v v' : Value) (xs ys : List Int) (w : World) (h : Sees w v xs) (h' : Sees w v' ys) (hq : lk r c xs r' c' ys = q) :
    Calls Try.prog 72 #[.agg #[.int .i64 r, .int .i64 c, v], .agg #[.int .i64 r', .int .i64 c', v']] w fun e w' => e = .returned (.bool q) ∧ w.grownBy w' none := by
  have T1 : Three ((w.alloc (.cells #[.int .i64 r, .int .i64 c, v] 39)).alloc (.cells #[.int .i64 r', .int .i64 c', v'] 39)) w.heap.size (.int .i64 r) (.int .i64 c) v := (Three.new w _ _ _ _).alloc _
  have T2 : Three ((w.alloc (.cells #[.int .i64 r, .int .i64 c, v] 39)).alloc (.cells #[.int .i64 r', .int .i64 c', v'] 39)) (w.heap.size + 1) (.int .i64 r') (.int .i64 c') v' := by
    simpa using Three.new (w.alloc (.cells #[.int .i64 r, .int .i64 c, v] 39)) (.int .i64 r') (.int .i64 c') v' 39
  have G0 : w.grownBy ((w.alloc (.cells #[.int .i64 r, .int .i64 c, v] 39)).alloc (.cells #[.int .i64 r', .int .i64 c', v'] 39)) none := gbt (World.grownBy_alloc _ _ _) (World.grownBy_alloc _ _ _)
  replace h := h.kept G0
  replace h' := h'.kept G0
  obtain ⟨a, cap, rfl⟩ := h.form
  obtain ⟨a', cap', rfl⟩ := h'.form
  by_cases m1 : mv r c xs = true
  · by_cases m2 : mv r' c' ys = true
    · by_cases hr : r = r'
      · have h1 : (r == r') = true := by simp [hr]
        by_cases hc : c = c'
        · have h2 : (c == c') = true := by simp [hc]
          obtain rfl : q = true := by rw [← hq]; exact lk_iff.2 ⟨m1, m2, hr, hc⟩
          clear hr hc hq
          go_enter Try.func72, Try.ntmps72
          go_wp2_with fail
          refine (mvq_s true _ _ _ xs _ h m1).mono ?_
          rintro e w1 ⟨rfl, hg⟩
          replace T1 := T1.kept hg (by simp)
          replace T2 := T2.kept hg (by simp)
          replace G0 := gbt G0 hg
          replace h' := h'.kept hg
          clear hg h
          obtain ⟨p0, p1, p2, _, _, _⟩ := T2
          go_wp2_with fail
          refine (mvq_s true _ _ _ ys _ h' m2).mono ?_
          rintro e w2 ⟨rfl, hg⟩
          replace T2 := Three.kept ⟨p0, p1, p2, by assumption, by assumption, by assumption⟩ hg (by simp)
          replace T1 := T1.kept hg (by simp)
          replace G0 := gbt G0 hg
          clear hg h' p0 p1 p2
          have p0 := T1.c0
          have p1 := T1.c1
          have q0 := T2.c0
          have q1 := T2.c1
          clear T1 T2
          go_wp2_with fail
          go_ret
          exact ⟨rfl, G0⟩
        · have h2 : (c == c') = false := by simp [hc]
          obtain rfl : q = false := by rw [← hq]; simp [lk, hc]
          clear hr hc hq
          go_enter Try.func72, Try.ntmps72
          go_wp2_with fail
          refine (mvq_s true _ _ _ xs _ h m1).mono ?_
          rintro e w1 ⟨rfl, hg⟩
          replace T1 := T1.kept hg (by simp)
          replace T2 := T2.kept hg (by simp)
          replace G0 := gbt G0 hg
          replace h' := h'.kept hg
          clear hg h
          obtain ⟨p0, p1, p2, _, _, _⟩ := T2
          go_wp2_with fail
          refine (mvq_s true _ _ _ ys _ h' m2).mono ?_
          rintro e w2 ⟨rfl, hg⟩
          replace T2 := Three.kept ⟨p0, p1, p2, by assumption, by assumption, by assumption⟩ hg (by simp)
          replace T1 := T1.kept hg (by simp)
          replace G0 := gbt G0 hg
          clear hg h' p0 p1 p2
          have p0 := T1.c0
          have p1 := T1.c1
          have q0 := T2.c0
          have q1 := T2.c1
          clear T1 T2
          go_wp2_with fail
          go_ret
          exact ⟨rfl, G0⟩
      · have h1 : (r == r') = false := by simp [hr]
        obtain rfl : q = false := by rw [← hq]; simp [lk, hr]
        clear hr hq
        go_enter Try.func72, Try.ntmps72
        go_wp2_with fail
        refine (mvq_s true _ _ _ xs _ h m1).mono ?_
        rintro e w1 ⟨rfl, hg⟩
        replace T1 := T1.kept hg (by simp)
        replace T2 := T2.kept hg (by simp)
        replace G0 := gbt G0 hg
        replace h' := h'.kept hg
        clear hg h
        obtain ⟨p0, p1, p2, _, _, _⟩ := T2
        go_wp2_with fail
        refine (mvq_s true _ _ _ ys _ h' m2).mono ?_
        rintro e w2 ⟨rfl, hg⟩
        replace T2 := Three.kept ⟨p0, p1, p2, by assumption, by assumption, by assumption⟩ hg (by simp)
        replace T1 := T1.kept hg (by simp)
        replace G0 := gbt G0 hg
        clear hg h' p0 p1 p2
        have p0 := T1.c0
        have p1 := T1.c1
        have q0 := T2.c0
        have q1 := T2.c1
        clear T1 T2
        go_wp2_with fail
        go_ret
        exact ⟨rfl, G0⟩
    · obtain rfl : q = false := by rw [← hq]; simp [lk, m2]
      have m2' : mv r' c' ys = false := by simpa using m2
      clear m2 hq
      go_enter Try.func72, Try.ntmps72
      go_wp2_with fail
      refine (mvq_s true _ _ _ xs _ h m1).mono ?_
      rintro e w1 ⟨rfl, hg⟩
      replace T1 := T1.kept hg (by simp)
      replace T2 := T2.kept hg (by simp)
      replace G0 := gbt G0 hg
      replace h' := h'.kept hg
      clear hg h
      obtain ⟨p0, p1, p2, _, _, _⟩ := T2
      go_wp2_with fail
      refine (mvq_s false _ _ _ ys _ h' m2').mono ?_
      rintro e w2 ⟨rfl, hg⟩
      replace T2 := Three.kept ⟨p0, p1, p2, by assumption, by assumption, by assumption⟩ hg (by simp)
      replace T1 := T1.kept hg (by simp)
      replace G0 := gbt G0 hg
      clear hg h' p0 p1 p2
      have p0 := T1.c0
      have p1 := T1.c1
      have q0 := T2.c0
      have q1 := T2.c1
      clear T1 T2
      go_wp2_with fail
      go_ret
      exact ⟨rfl, G0⟩
  · obtain rfl : q = false := by rw [← hq]; simp [lk, m1]
    have m1' : mv r c xs = false := by simpa using m1
    clear m1 hq
    go_enter Try.func72, Try.ntmps72
    go_wp2_with fail
    refine (mvq_s false _ _ _ xs _ h m1').mono ?_
    rintro e w1 ⟨rfl, hg⟩
    replace T1 := T1.kept hg (by simp)
    replace T2 := T2.kept hg (by simp)
    replace G0 := gbt G0 hg
    clear hg h h'
    go_wp2_with fail
    go_ret
    exact ⟨rfl, G0⟩
end Go.Proofs.Ythcochdkclmejaa
