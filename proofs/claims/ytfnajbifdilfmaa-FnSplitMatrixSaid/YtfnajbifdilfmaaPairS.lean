/- The contracts of the reference's AddMatrices and SubMatrices: each returns the matrix of sums or differences in new memory, the zero value where the matrices are not alike. Conditions: at most 2 to the 20 values. -/
import Derived.Test.YtfnajbifdilfmaaPair
namespace Go.Proofs.Ytfnajbifdilfmaa
open Go Go.RowKit

/-- Behind the reference's copies of both matrices. -/
structure Pre (w W : World) (r c r' c' : Int) (a a' : Option Addr) (cap cap' : Nat) (xs ys : List Int) : Prop where
  bx : Box3 w W r c r' c' (.slice a xs.length cap) (.slice a' ys.length cap')
  o1 : W.ownsRow (w.heap.size + 1 + 1 + 1) 3 1 (.slice a xs.length cap) xs.length (ints xs)
  o2 : W.ownsRow (w.heap.size + 1 + 1 + 1) 3 1 (.slice a' ys.length cap') ys.length (ints ys)
theorem Pre.kept {w W W' : World} {r c r' c' : Int} {a a' : Option Addr} {cap cap' : Nat} {xs ys : List Int} (h : Pre w W r c r' c' a a' cap cap' xs ys) (hg : W.grownBy W' none) : Pre w W' r c r' c' a a' cap cap' xs ys :=
  ⟨h.bx.kept hg, own_kept h.o1 hg, own_kept h.o2 hg⟩
theorem Box3.set1 {w W : World} {r c r' c' : Int} {v v' : Value} (h : Box3 w W r c r' c' v v') (z : Value) :
    Box3 w (((W.setCell ⟨w.heap.size, 0, none⟩ (.int .i64 r)).setCell ⟨w.heap.size, 1, none⟩ (.int .i64 c)).setCell ⟨w.heap.size, 2, none⟩ z) r c r' c' z v' := by
  obtain ⟨t, g⟩ := h.t1.set (.int .i64 r) (.int .i64 c) z
  exact ⟨t, h.t2.kept g (by simp), h.t3.kept g (by simp; omega), gb_none h.g0 g (fun k e => by cases e; omega), Nat.le_trans h.n g.size⟩
theorem Box3.set2 {w W : World} {r c r' c' : Int} {v v' : Value} (h : Box3 w W r c r' c' v v') (z : Value) :
    Box3 w (((W.setCell ⟨w.heap.size + 1, 0, none⟩ (.int .i64 r')).setCell ⟨w.heap.size + 1, 1, none⟩ (.int .i64 c')).setCell ⟨w.heap.size + 1, 2, none⟩ z) r c r' c' v z := by
  obtain ⟨t, g⟩ := h.t2.set (.int .i64 r') (.int .i64 c') z
  exact ⟨h.t1.kept g (by simp), t, h.t3.kept g (by simp), gb_none h.g0 g (fun k e => by cases e; omega), Nat.le_trans h.n g.size⟩
theorem own_set3 {W : World} {base n B : Nat} {v x y z : Value} {l : List Value} (h : W.ownsRow base 3 1 v n l) (hB : B < base) :
    (((W.setCell ⟨B, 0, none⟩ x).setCell ⟨B, 1, none⟩ y).setCell ⟨B, 2, none⟩ z).ownsRow base 3 1 v n l :=
  ownsRow_setCell_below (ownsRow_setCell_below (ownsRow_setCell_below h (by exact hB) _) (by exact hB) _) (by exact hB) _
theorem l3Like (q : Bool) (r c r' c' : Int) (v v' : Value) (xs ys : List Int) (w : World) (h : Sees w v xs) (h' : Sees w v' ys) (hq : lk r c xs r' c' ys = q) :
    Calls Try.prog 59 #[.agg #[.int .i64 r, .int .i64 c, v], .agg #[.int .i64 r', .int .i64 c', v']] w fun e w' => e = .returned (.bool q) ∧ w.grownBy w' none := by
  have T1 : Three ((w.alloc (.cells #[.int .i64 r, .int .i64 c, v] 26)).alloc (.cells #[.int .i64 r', .int .i64 c', v'] 26)) w.heap.size (.int .i64 r) (.int .i64 c) v := (Three.new w _ _ _ _).alloc _
  have T2 : Three ((w.alloc (.cells #[.int .i64 r, .int .i64 c, v] 26)).alloc (.cells #[.int .i64 r', .int .i64 c', v'] 26)) (w.heap.size + 1) (.int .i64 r') (.int .i64 c') v' := by
    simpa using Three.new (w.alloc (.cells #[.int .i64 r, .int .i64 c, v] 26)) (.int .i64 r') (.int .i64 c') v' 26
  have G0 : w.grownBy ((w.alloc (.cells #[.int .i64 r, .int .i64 c, v] 26)).alloc (.cells #[.int .i64 r', .int .i64 c', v'] 26)) none := gbt (World.grownBy_alloc _ _ _) (World.grownBy_alloc _ _ _)
  replace h := h.kept G0
  replace h' := h'.kept G0
  obtain ⟨a, cap, rfl⟩ := h.form
  obtain ⟨a', cap', rfl⟩ := h'.form
  by_cases m1 : mv r c xs = true
  · by_cases m2 : mv r' c' ys = true
    · by_cases hr : r = r'
      · have h1 : (r == r') = true := by simp [hr]
        by_cases hc : c = c'
        · have h2 : (c == c') = true := by simp [hc]
          obtain rfl : q = true := by rw [← hq]; exact lk_iff.2 ⟨m1, m2, hr, hc⟩
          clear hr hc hq
          go_enter Try.func59, Try.ntmps59
          go_wp2_with fail
          refine (mvq_s true _ _ _ xs _ h m1).mono ?_
          rintro e w1 ⟨rfl, hg⟩
          replace T1 := T1.kept hg (by simp)
          replace T2 := T2.kept hg (by simp)
          replace G0 := gbt G0 hg
          replace h' := h'.kept hg
          clear hg h
          obtain ⟨p0, p1, p2, _, _, _⟩ := T2
          go_wp2_with fail
          refine (mvq_s true _ _ _ ys _ h' m2).mono ?_
          rintro e w2 ⟨rfl, hg⟩
          replace T2 := Three.kept ⟨p0, p1, p2, by assumption, by assumption, by assumption⟩ hg (by simp)
          replace T1 := T1.kept hg (by simp)
          replace G0 := gbt G0 hg
          clear hg h' p0 p1 p2
          have p0 := T1.c0
          have p1 := T1.c1
          have q0 := T2.c0
          have q1 := T2.c1
          clear T1 T2
          go_wp2_with fail
          go_ret
          exact ⟨rfl, G0⟩
        · have h2 : (c == c') = false := by simp [hc]
          obtain rfl : q = false := by rw [← hq]; simp [lk, hc]
          clear hr hc hq
          go_enter Try.func59, Try.ntmps59
          go_wp2_with fail
          refine (mvq_s true _ _ _ xs _ h m1).mono ?_
          rintro e w1 ⟨rfl, hg⟩
          replace T1 := T1.kept hg (by simp)
          replace T2 := T2.kept hg (by simp)
          replace G0 := gbt G0 hg
          replace h' := h'.kept hg
          clear hg h
          obtain ⟨p0, p1, p2, _, _, _⟩ := T2
          go_wp2_with fail
          refine (mvq_s true _ _ _ ys _ h' m2).mono ?_
          rintro e w2 ⟨rfl, hg⟩
          replace T2 := Three.kept ⟨p0, p1, p2, by assumption, by assumption, by assumption⟩ hg (by simp)
          replace T1 := T1.kept hg (by simp)
          replace G0 := gbt G0 hg
          clear hg h' p0 p1 p2
          have p0 := T1.c0
          have p1 := T1.c1
          have q0 := T2.c0
          have q1 := T2.c1
          clear T1 T2
          go_wp2_with fail
          go_ret
          exact ⟨rfl, G0⟩
      · have h1 : (r == r') = false := by simp [hr]
        obtain rfl : q = false := by rw [← hq]; simp [lk, hr]
        clear hr hq
        go_enter Try.func59, Try.ntmps59
        go_wp2_with fail
        refine (mvq_s true _ _ _ xs _ h m1).mono ?_
        rintro e w1 ⟨rfl, hg⟩
        replace T1 := T1.kept hg (by simp)
        replace T2 := T2.kept hg (by simp)
        replace G0 := gbt G0 hg
        replace h' := h'.kept hg
        clear hg h
        obtain ⟨p0, p1, p2, _, _, _⟩ := T2
        go_wp2_with fail
        refine (mvq_s true _ _ _ ys _ h' m2).mono ?_
        rintro e w2 ⟨rfl, hg⟩
        replace T2 := Three.kept ⟨p0, p1, p2, by assumption, by assumption, by assumption⟩ hg (by simp)
        replace T1 := T1.kept hg (by simp)
        replace G0 := gbt G0 hg
        clear hg h' p0 p1 p2
        have p0 := T1.c0
        have p1 := T1.c1
        have q0 := T2.c0
        have q1 := T2.c1
        clear T1 T2
        go_wp2_with fail
        go_ret
        exact ⟨rfl, G0⟩
    · obtain rfl : q = false := by rw [← hq]; simp [lk, m2]
      have m2' : mv r' c' ys = false := by simpa using m2
      clear m2 hq
      go_enter Try.func59, Try.ntmps59
      go_wp2_with fail
      refine (mvq_s true _ _ _ xs _ h m1).mono ?_
      rintro e w1 ⟨rfl, hg⟩
      replace T1 := T1.kept hg (by simp)
      replace T2 := T2.kept hg (by simp)
      replace G0 := gbt G0 hg
      replace h' := h'.kept hg
      clear hg h
      obtain ⟨p0, p1, p2, _, _, _⟩ := T2
      go_wp2_with fail
      refine (mvq_s false _ _ _ ys _ h' m2').mono ?_
      rintro e w2 ⟨rfl, hg⟩
      replace T2 := Three.kept ⟨p0, p1, p2, by assumption, by assumption, by assumption⟩ hg (by simp)
      replace T1 := T1.kept hg (by simp)
      replace G0 := gbt G0 hg
      clear hg h' p0 p1 p2
      have p0 := T1.c0
      have p1 := T1.c1
      have q0 := T2.c0
      have q1 := T2.c1
      clear T1 T2
      go_wp2_with fail
      go_ret
      exact ⟨rfl, G0⟩
  · obtain rfl : q = false := by rw [← hq]; simp [lk, m1]
    have m1' : mv r c xs = false := by simpa using m1
    clear m1 hq
    go_enter Try.func59, Try.ntmps59
    go_wp2_with fail
    refine (mvq_s false _ _ _ xs _ h m1').mono ?_
    rintro e w1 ⟨rfl, hg⟩
    replace T1 := T1.kept hg (by simp)
    replace T2 := T2.kept hg (by simp)
    replace G0 := gbt G0 hg
    clear hg h h'
    go_wp2_with fail
    go_ret
    exact ⟨rfl, G0⟩
set_option maxHeartbeats 3200000 in
theorem addMatrices_s (r c r' c' : Int) (v v' : Value) (xs ys : List Int) (w : World) (h : Sees w v xs) (h' : Sees w v' ys) (hn : xs.length ≤ 1048576) (hn' : ys.length ≤ 1048576) :
    Calls Try.prog 21 #[.agg #[.int .i64 r, .int .i64 c, v], .agg #[.int .i64 r', .int .i64 c', v']] w (RetM w (pN (lk r c xs r' c' ys) r) (pN (lk r c xs r' c' ys) c) (pV (lk r c xs r' c' ys) (addL xs ys))) := by
  obtain ⟨i0, hi, hz0, hz1, hz2⟩ := info_parts info_int
  have B0 := Box3.new w r c r' c' v v' 26
  obtain ⟨a, cap, rfl⟩ := h.form
  obtain ⟨a', cap', rfl⟩ := h'.form
  by_cases hq : lk r c xs r' c' ys = true
  · rw [hq]
    have e1 : pN true r = r := rfl
    have e2 : pN true c = c := rfl
    have e3 : pV true (addL xs ys) = addL xs ys := rfl
    rw [e1, e2, e3]
    clear e1 e2 e3
    go_enter Try.func21, Try.ntmps21
    go_wp2_with fail
    refine (l1OwnMatrix _ _ _ xs _ (h.kept B0.g0) hn).mono ?_
    rintro e w1 ⟨a1, cap1, rfl, ho, hg⟩
    replace ho := own_base ho (b' := w.heap.size + 1 + 1 + 1) B0.n
    replace B0 := B0.kept hg
    obtain ⟨p0, p1, p2, p3, p4, p5⟩ := B0.t1
    obtain ⟨q0, q1, q2, q3, q4, q5⟩ := B0.t2
    clear hg
    replace ho := own_set3 (x := .int .i64 r) (y := .int .i64 c) (z := .slice a1 xs.length cap1) ho (show w.heap.size < w.heap.size + 1 + 1 + 1 by omega)
    replace B0 := B0.set1 (.slice a1 xs.length cap1)
    have hzz := w.heap.size
    go_wp2_with fail
    clear p0 p1 p2 p3 p4 p5 q0 q1 q2 q3 q4 q5 hzz
    generalize hW : (((w1.setCell ⟨w.heap.size, 0, none⟩ (.int .i64 r)).setCell ⟨w.heap.size, 1, none⟩ (.int .i64 c)).setCell ⟨w.heap.size, 2, none⟩ (.slice a1 xs.length cap1)) = W1 at *
    clear hW
    refine (l1OwnMatrix _ _ _ ys _ (h'.kept B0.g0) hn').mono ?_
    rintro e w2 ⟨a2, cap2, rfl, ho2, hg⟩
    replace ho2 := own_base ho2 (b' := w.heap.size + 1 + 1 + 1) B0.n
    replace ho := own_kept ho hg
    replace B0 := B0.kept hg
    obtain ⟨p0, p1, p2, p3, p4, p5⟩ := B0.t2
    obtain ⟨q0, q1, q2, q3, q4, q5⟩ := B0.t1
    clear hg
    replace ho := own_set3 (x := .int .i64 r') (y := .int .i64 c') (z := .slice a2 ys.length cap2) ho (show w.heap.size + 1 < w.heap.size + 1 + 1 + 1 by omega)
    replace ho2 := own_set3 (x := .int .i64 r') (y := .int .i64 c') (z := .slice a2 ys.length cap2) ho2 (show w.heap.size + 1 < w.heap.size + 1 + 1 + 1 by omega)
    replace B0 := B0.set2 (.slice a2 ys.length cap2)
    go_wp2_with fail
    clear p0 p1 p2 p3 p4 p5 q0 q1 q2 q3 q4 q5
    generalize hW : (((w2.setCell ⟨w.heap.size + 1, 0, none⟩ (.int .i64 r')).setCell ⟨w.heap.size + 1, 1, none⟩ (.int .i64 c')).setCell ⟨w.heap.size + 1, 2, none⟩ (.slice a2 ys.length cap2)) = W2 at *
    clear hW
    have P0 : Pre w W2 r c r' c' a1 a2 cap1 cap2 xs ys := ⟨B0, ho, ho2⟩
    clear B0 ho ho2 h h'
    refine (l3Like true _ _ _ _ _ _ xs ys _ (Sees.of_own P0.o1) (Sees.of_own P0.o2) hq).mono ?_
    rintro e w3 ⟨rfl, hg⟩
    replace P0 := P0.kept hg
    clear hg
    obtain ⟨m1, m2, e4, e5⟩ := lk_iff.1 hq
    subst e4
    subst e5
    obtain ⟨R, C, rfl, rfl, r1, r2, c1, c2, hl, h25⟩ := mv_dims m1
    have hl' : ys.length = R * C := by
      have := (mv_iff.1 m2).2.2.1
      exact_mod_cast this
    have hpos : 0 < R * C := Nat.mul_pos (by omega) (by omega)
    obtain ⟨N, hN⟩ : ∃ N, N = R * C := ⟨_, rfl⟩
    have hE : Hid (addL xs ys = (List.range N).map fun i => addr (xs.getD i 0) (ys.getD i 0)) := zip_range addr (by omega) (by omega)
    have hEl : Hid ((addL xs ys).length = N) := by unfold Hid; rw [hE.out]; simp
    have hX : Hid (xs.length = N) := by unfold Hid; omega
    have hY : Hid (ys.length = N) := by unfold Hid; omega
    have hN25 : N ≤ 25 := by omega
    obtain ⟨g1, cp1, he1, _, _⟩ := own_form P0.o1 (by omega)
    obtain ⟨g2, cp2, he2, _, _⟩ := own_form P0.o2 (by omega)
    obtain rfl : a1 = some ⟨g1, 0, none⟩ := by simp at he1; exact he1.1
    obtain rfl : a2 = some ⟨g2, 0, none⟩ := by simp at he2; exact he2.1
    have hg1 : w.heap.size + 1 + 1 + 1 ≤ g1 ∧ g1 < w3.heap.size := P0.o1.lt g1 rfl
    have hg2 : w.heap.size + 1 + 1 + 1 ≤ g2 ∧ g2 < w3.heap.size := P0.o2.lt g2 rfl
    have hpos' : 0 < N := by omega
    clear he1 he2 hq m1 m2 hl hl' hN hn hn' hpos h25
    obtain ⟨p0, p1, p2, p3, p4, p5⟩ := P0.bx.t1
    go_wp2_with fail
    have S0 := Col.start w3 R C
    have hw3 := P0.bx.n
    obtain ⟨W3, hW3⟩ : ∃ W3, W3 = w3.alloc (.cells #[.int .i64 R, .int .i64 C, .slice none 0 0] 26) := ⟨_, rfl⟩
    replace P0 := P0.kept (World.grownBy_alloc w3 (.cells #[.int .i64 R, .int .i64 C, .slice none 0 0] 26) none)
    rw [← hW3] at S0 P0 ⊢
    clear hW3 p0 p1 p2 p3 p4 p5
    go_loopw [6] (fun i wr => ∃ (k : Nat) (sl : Value), k ≤ N ∧ i = .int .i64 k ∧ Col W3 wr w3.heap.size R C k sl ((List.range k).map fun i => addr (xs.getD i 0) (ys.getD i 0)))
      (fun i _ => N - (intOf i).toNat)
    case atStart => exact ⟨0, _, Nat.zero_le _, rfl, S0⟩
    case round =>
      obtain ⟨k, sl0, hk, rfl, hS⟩ := hrel
      clear S0
      have t1 := P0.bx.t1.kept hS.gw (by simp; omega)
      have p2 := t1.c2
      rw [hX.out] at p2
      by_cases hlt : k < N
      · have HM : Hid (∀ w', W3.grownBy w' (some w3.heap.size) → w'.cell? ⟨w.heap.size, 2, none⟩ = some (.slice (some ⟨g1, 0, none⟩) N cap1) ∧ w'.cell? ⟨w.heap.size + 1, 2, none⟩ = some (.slice (some ⟨g2, 0, none⟩) N cap2) ∧ w'.cell? ⟨g1, k, none⟩ = some (.int .i64 (xs.getD k 0)) ∧ w'.cell? ⟨g2, k, none⟩ = some (.int .i64 (ys.getD k 0))) := by
          intro w' hg
          have e1 := P0.bx.t1.c2
          have e2 := P0.bx.t2.c2
          rw [hX.out] at e1
          rw [hY.out] at e2
          exact ⟨hg.cell e1 (by simp; omega), hg.cell e2 (by simp; omega), hg.cell (own_cell P0.o1 k (by rw [hX.out]; exact hlt)) (by simp; omega), hg.cell (own_cell P0.o2 k (by rw [hY.out]; exact hlt)) (by simp; omega)⟩
        obtain ⟨x, hx⟩ : ∃ x, x = xs.getD k 0 := ⟨_, rfl⟩
        obtain ⟨y, hy⟩ : ∃ y, y = ys.getD k 0 := ⟨_, rfl⟩
        rw [← hx, ← hy] at HM
        have HX : Hid (addr (xs.getD k 0) (ys.getD k 0) = addr x y) := by unfold Hid; rw [hx, hy]
        clear hx hy
        have hini : (k : Int) < (N : Int) := by exact_mod_cast hlt
        have hkb : k < 26 := by omega
        have hk0 : (0 : Int) ≤ (k : Int) := by omega
        have zB := hS.t3.lt
        have hz5 : w.heap.size < wr.heap.size := t1.lt
        have hz6 : w.heap.size + 1 < wr.heap.size := by omega
        have hz7 : g1 < wr.heap.size := by omega
        have hz8 : g2 < wr.heap.size := by omega
        have hgw := hS.gw
        have hD := (hS.kept (gb_drew wr none)).kept (World.grownBy_alloc wr.drew (.cells #[.int .i64 (addr x y)] 3) none)
        have hc3 := hS.t3.c2
        obtain ⟨sa, sc, rfl⟩ := own_slice hS.own
        clear hS t1
        go_wp2_with fail
        clear p2
        obtain ⟨s1, s2, s3, s4⟩ := HM.out _ hgw
        clear hgw
        go_region_law (first
            | (refine step_append_lies _ (by rfl) _ _ 22 (by rfl) (w3.heap.size + 1) 3 i0 (.int .i64 0) 1 8 Try.underlying22 hi hz0 hz1 hz2 rfl (by omega) (.slice sa k sc) k (ints ((List.range k).map fun i => addr (xs.getD i 0) (ys.getD i 0))) (by rfl) hD.own ⟨wr.heap.size, 0, none⟩ 1 1 [.int .i64 (addr x y)] (by rfl) (by rfl) (World.news_of_block (cs := #[.int .i64 (addr x y)]) (t := 3) (fr := (0, 0)) (heap_alloc_new wr _)) (by simp [Value.oneCell']) (by omega) (by unfold maxLen; omega) (by omega) (by simp; omega) _ rfl ?_; intro gg cg w4 ho4 hg4 hat hlt4; obtain ⟨t9, gw4, hE4⟩ := hD.app ho4 hg4; have hcE := t9.c2; have hfE := t9.f2; clear hD hc3 ho4 hg4 t9 gw4)
            | (go_simp; go_at_call 60; refine (addRing_s _ _ _).mono ?_; rintro e w' ⟨rfl, rfl⟩; go_simp))
        all_goals go_wp2
        all_goals go_roundw
        all_goals first
          | exact ⟨k + 1, _, by omega, by go_num, by rw [range_succ_map, HX.out]; exact hE4⟩
          | (simp [intOf]; omega)
      · obtain rfl : k = N := by omega
        have hown := hS.own
        rw [← hE.out] at hown
        obtain ⟨sa, sc, rfl⟩ := own_slice hown
        obtain ⟨p0, p1, p2', p3, p4, p5⟩ := P0.bx.t3.kept hS.gw (by simp; omega)
        have q0 := hS.t3.c0
        have q1 := hS.t3.c1
        have q2 := hS.t3.c2
        have hG := gb_none P0.bx.g0 hS.gw (fun q e => by cases e; omega)
        clear hS
        go_wp2_with fail
        refine bodyPost_ret (v := .agg #[.int .i64 R, .int .i64 C, .slice sa k sc]) (by simp [results, Try.results21, go_sem, p0, p1, p2']) rfl ?_
        refine ⟨sa, sc, by rw [hEl.out], ?_, by repeat (first | exact hG | (refine gb_setNew ?_ (by omega) _ _))⟩
        rw [hEl.out]
        exact own_base (b := w3.heap.size + 1) (by repeat (first | exact hown | (refine ownsRow_setCell_below ?_ (by show w.heap.size + 1 + 1 < w3.heap.size + 1; omega) _))) (by omega)
  · have hq' : lk r c xs r' c' ys = false := by simpa using hq
    rw [hq']
    have e1 : pN false r = 0 := rfl
    have e2 : pN false c = 0 := rfl
    have e3 : pV false (addL xs ys) = [] := rfl
    rw [e1, e2, e3]
    clear e1 e2 e3 hq
    go_enter Try.func21, Try.ntmps21
    go_wp2_with fail
    refine (l1OwnMatrix _ _ _ xs _ (h.kept B0.g0) hn).mono ?_
    rintro e w1 ⟨a1, cap1, rfl, ho, hg⟩
    replace ho := own_base ho (b' := w.heap.size + 1 + 1 + 1) B0.n
    replace B0 := B0.kept hg
    obtain ⟨p0, p1, p2, p3, p4, p5⟩ := B0.t1
    obtain ⟨q0, q1, q2, q3, q4, q5⟩ := B0.t2
    clear hg
    replace ho := own_set3 (x := .int .i64 r) (y := .int .i64 c) (z := .slice a1 xs.length cap1) ho (show w.heap.size < w.heap.size + 1 + 1 + 1 by omega)
    replace B0 := B0.set1 (.slice a1 xs.length cap1)
    have hzz := w.heap.size
    go_wp2_with fail
    clear p0 p1 p2 p3 p4 p5 q0 q1 q2 q3 q4 q5 hzz
    generalize hW : (((w1.setCell ⟨w.heap.size, 0, none⟩ (.int .i64 r)).setCell ⟨w.heap.size, 1, none⟩ (.int .i64 c)).setCell ⟨w.heap.size, 2, none⟩ (.slice a1 xs.length cap1)) = W1 at *
    clear hW
    refine (l1OwnMatrix _ _ _ ys _ (h'.kept B0.g0) hn').mono ?_
    rintro e w2 ⟨a2, cap2, rfl, ho2, hg⟩
    replace ho2 := own_base ho2 (b' := w.heap.size + 1 + 1 + 1) B0.n
    replace ho := own_kept ho hg
    replace B0 := B0.kept hg
    obtain ⟨p0, p1, p2, p3, p4, p5⟩ := B0.t2
    obtain ⟨q0, q1, q2, q3, q4, q5⟩ := B0.t1
    clear hg
    replace ho := own_set3 (x := .int .i64 r') (y := .int .i64 c') (z := .slice a2 ys.length cap2) ho (show w.heap.size + 1 < w.heap.size + 1 + 1 + 1 by omega)
    replace ho2 := own_set3 (x := .int .i64 r') (y := .int .i64 c') (z := .slice a2 ys.length cap2) ho2 (show w.heap.size + 1 < w.heap.size + 1 + 1 + 1 by omega)
    replace B0 := B0.set2 (.slice a2 ys.length cap2)
    go_wp2_with fail
    clear p0 p1 p2 p3 p4 p5 q0 q1 q2 q3 q4 q5
    generalize hW : (((w2.setCell ⟨w.heap.size + 1, 0, none⟩ (.int .i64 r')).setCell ⟨w.heap.size + 1, 1, none⟩ (.int .i64 c')).setCell ⟨w.heap.size + 1, 2, none⟩ (.slice a2 ys.length cap2)) = W2 at *
    clear hW
    have P0 : Pre w W2 r c r' c' a1 a2 cap1 cap2 xs ys := ⟨B0, ho, ho2⟩
    clear B0 ho ho2 h h'
    refine (l3Like false _ _ _ _ _ _ xs ys _ (Sees.of_own P0.o1) (Sees.of_own P0.o2) hq').mono ?_
    rintro e w3 ⟨rfl, hg⟩
    have B0 := P0.bx.kept hg
    clear hg P0
    obtain ⟨q0, q1, q2, q3, q4, q5⟩ := B0.t3
    have G0 := B0.g0
    have hz := B0.n
    clear B0
    go_wp2
    exact bodyPost_ret (v := .agg #[.int .i64 0, .int .i64 0, .slice none 0 0]) (by simp [results, Try.results21, go_sem, q0, q1, q2]) rfl ⟨none, 0, rfl, World.ownsRow_nil _ _ _ _, by repeat (first | exact G0 | (refine gb_setNew ?_ (by omega) _ _))⟩
set_option maxHeartbeats 3200000 in
theorem subMatrices_s (r c r' c' : Int) (v v' : Value) (xs ys : List Int) (w : World) (h : Sees w v xs) (h' : Sees w v' ys) (hn : xs.length ≤ 1048576) (hn' : ys.length ≤ 1048576) :
    Calls Try.prog 23 #[.agg #[.int .i64 r, .int .i64 c, v], .agg #[.int .i64 r', .int .i64 c', v']] w (RetM w (pN (lk r c xs r' c' ys) r) (pN (lk r c xs r' c' ys) c) (pV (lk r c xs r' c' ys) (subL xs ys))) := by
  obtain ⟨i0, hi, hz0, hz1, hz2⟩ := info_parts info_int
  have B0 := Box3.new w r c r' c' v v' 26
  obtain ⟨a, cap, rfl⟩ := h.form
  obtain ⟨a', cap', rfl⟩ := h'.form
  by_cases hq : lk r c xs r' c' ys = true
  · rw [hq]
    have e1 : pN true r = r := rfl
    have e2 : pN true c = c := rfl
    have e3 : pV true (subL xs ys) = subL xs ys := rfl
    rw [e1, e2, e3]
    clear e1 e2 e3
    go_enter Try.func23, Try.ntmps23
    go_wp2_with fail
    refine (l1OwnMatrix _ _ _ xs _ (h.kept B0.g0) hn).mono ?_
    rintro e w1 ⟨a1, cap1, rfl, ho, hg⟩
    replace ho := own_base ho (b' := w.heap.size + 1 + 1 + 1) B0.n
    replace B0 := B0.kept hg
    obtain ⟨p0, p1, p2, p3, p4, p5⟩ := B0.t1
    obtain ⟨q0, q1, q2, q3, q4, q5⟩ := B0.t2
    clear hg
    replace ho := own_set3 (x := .int .i64 r) (y := .int .i64 c) (z := .slice a1 xs.length cap1) ho (show w.heap.size < w.heap.size + 1 + 1 + 1 by omega)
    replace B0 := B0.set1 (.slice a1 xs.length cap1)
    have hzz := w.heap.size
    go_wp2_with fail
    clear p0 p1 p2 p3 p4 p5 q0 q1 q2 q3 q4 q5 hzz
    generalize hW : (((w1.setCell ⟨w.heap.size, 0, none⟩ (.int .i64 r)).setCell ⟨w.heap.size, 1, none⟩ (.int .i64 c)).setCell ⟨w.heap.size, 2, none⟩ (.slice a1 xs.length cap1)) = W1 at *
    clear hW
    refine (l1OwnMatrix _ _ _ ys _ (h'.kept B0.g0) hn').mono ?_
    rintro e w2 ⟨a2, cap2, rfl, ho2, hg⟩
    replace ho2 := own_base ho2 (b' := w.heap.size + 1 + 1 + 1) B0.n
    replace ho := own_kept ho hg
    replace B0 := B0.kept hg
    obtain ⟨p0, p1, p2, p3, p4, p5⟩ := B0.t2
    obtain ⟨q0, q1, q2, q3, q4, q5⟩ := B0.t1
    clear hg
    replace ho := own_set3 (x := .int .i64 r') (y := .int .i64 c') (z := .slice a2 ys.length cap2) ho (show w.heap.size + 1 < w.heap.size + 1 + 1 + 1 by omega)
    replace ho2 := own_set3 (x := .int .i64 r') (y := .int .i64 c') (z := .slice a2 ys.length cap2) ho2 (show w.heap.size + 1 < w.heap.size + 1 + 1 + 1 by omega)
    replace B0 := B0.set2 (.slice a2 ys.length cap2)
    go_wp2_with fail
    clear p0 p1 p2 p3 p4 p5 q0 q1 q2 q3 q4 q5
    generalize hW : (((w2.setCell ⟨w.heap.size + 1, 0, none⟩ (.int .i64 r')).setCell ⟨w.heap.size + 1, 1, none⟩ (.int .i64 c')).setCell ⟨w.heap.size + 1, 2, none⟩ (.slice a2 ys.length cap2)) = W2 at *
    clear hW
    have P0 : Pre w W2 r c r' c' a1 a2 cap1 cap2 xs ys := ⟨B0, ho, ho2⟩
    clear B0 ho ho2 h h'
    refine (l3Like true _ _ _ _ _ _ xs ys _ (Sees.of_own P0.o1) (Sees.of_own P0.o2) hq).mono ?_
    rintro e w3 ⟨rfl, hg⟩
    replace P0 := P0.kept hg
    clear hg
    obtain ⟨m1, m2, e4, e5⟩ := lk_iff.1 hq
    subst e4
    subst e5
    obtain ⟨R, C, rfl, rfl, r1, r2, c1, c2, hl, h25⟩ := mv_dims m1
    have hl' : ys.length = R * C := by
      have := (mv_iff.1 m2).2.2.1
      exact_mod_cast this
    have hpos : 0 < R * C := Nat.mul_pos (by omega) (by omega)
    obtain ⟨N, hN⟩ : ∃ N, N = R * C := ⟨_, rfl⟩
    have hE : Hid (subL xs ys = (List.range N).map fun i => subr (xs.getD i 0) (ys.getD i 0)) := zip_range subr (by omega) (by omega)
    have hEl : Hid ((subL xs ys).length = N) := by unfold Hid; rw [hE.out]; simp
    have hX : Hid (xs.length = N) := by unfold Hid; omega
    have hY : Hid (ys.length = N) := by unfold Hid; omega
    have hN25 : N ≤ 25 := by omega
    obtain ⟨g1, cp1, he1, _, _⟩ := own_form P0.o1 (by omega)
    obtain ⟨g2, cp2, he2, _, _⟩ := own_form P0.o2 (by omega)
    obtain rfl : a1 = some ⟨g1, 0, none⟩ := by simp at he1; exact he1.1
    obtain rfl : a2 = some ⟨g2, 0, none⟩ := by simp at he2; exact he2.1
    have hg1 : w.heap.size + 1 + 1 + 1 ≤ g1 ∧ g1 < w3.heap.size := P0.o1.lt g1 rfl
    have hg2 : w.heap.size + 1 + 1 + 1 ≤ g2 ∧ g2 < w3.heap.size := P0.o2.lt g2 rfl
    have hpos' : 0 < N := by omega
    clear he1 he2 hq m1 m2 hl hl' hN hn hn' hpos h25
    obtain ⟨p0, p1, p2, p3, p4, p5⟩ := P0.bx.t1
    go_wp2_with fail
    have S0 := Col.start w3 R C
    have hw3 := P0.bx.n
    obtain ⟨W3, hW3⟩ : ∃ W3, W3 = w3.alloc (.cells #[.int .i64 R, .int .i64 C, .slice none 0 0] 26) := ⟨_, rfl⟩
    replace P0 := P0.kept (World.grownBy_alloc w3 (.cells #[.int .i64 R, .int .i64 C, .slice none 0 0] 26) none)
    rw [← hW3] at S0 P0 ⊢
    clear hW3 p0 p1 p2 p3 p4 p5
    go_loopw [6] (fun i wr => ∃ (k : Nat) (sl : Value), k ≤ N ∧ i = .int .i64 k ∧ Col W3 wr w3.heap.size R C k sl ((List.range k).map fun i => subr (xs.getD i 0) (ys.getD i 0)))
      (fun i _ => N - (intOf i).toNat)
    case atStart => exact ⟨0, _, Nat.zero_le _, rfl, S0⟩
    case round =>
      obtain ⟨k, sl0, hk, rfl, hS⟩ := hrel
      clear S0
      have t1 := P0.bx.t1.kept hS.gw (by simp; omega)
      have p2 := t1.c2
      rw [hX.out] at p2
      by_cases hlt : k < N
      · have HM : Hid (∀ w', W3.grownBy w' (some w3.heap.size) → w'.cell? ⟨w.heap.size, 2, none⟩ = some (.slice (some ⟨g1, 0, none⟩) N cap1) ∧ w'.cell? ⟨w.heap.size + 1, 2, none⟩ = some (.slice (some ⟨g2, 0, none⟩) N cap2) ∧ w'.cell? ⟨g1, k, none⟩ = some (.int .i64 (xs.getD k 0)) ∧ w'.cell? ⟨g2, k, none⟩ = some (.int .i64 (ys.getD k 0))) := by
          intro w' hg
          have e1 := P0.bx.t1.c2
          have e2 := P0.bx.t2.c2
          rw [hX.out] at e1
          rw [hY.out] at e2
          exact ⟨hg.cell e1 (by simp; omega), hg.cell e2 (by simp; omega), hg.cell (own_cell P0.o1 k (by rw [hX.out]; exact hlt)) (by simp; omega), hg.cell (own_cell P0.o2 k (by rw [hY.out]; exact hlt)) (by simp; omega)⟩
        obtain ⟨x, hx⟩ : ∃ x, x = xs.getD k 0 := ⟨_, rfl⟩
        obtain ⟨y, hy⟩ : ∃ y, y = ys.getD k 0 := ⟨_, rfl⟩
        rw [← hx, ← hy] at HM
        have HX : Hid (subr (xs.getD k 0) (ys.getD k 0) = subr x y) := by unfold Hid; rw [hx, hy]
        clear hx hy
        have hini : (k : Int) < (N : Int) := by exact_mod_cast hlt
        have hkb : k < 26 := by omega
        have hk0 : (0 : Int) ≤ (k : Int) := by omega
        have zB := hS.t3.lt
        have hz5 : w.heap.size < wr.heap.size := t1.lt
        have hz6 : w.heap.size + 1 < wr.heap.size := by omega
        have hz7 : g1 < wr.heap.size := by omega
        have hz8 : g2 < wr.heap.size := by omega
        have hgw := hS.gw
        have hD := (hS.kept (gb_drew wr none)).kept (World.grownBy_alloc wr.drew (.cells #[.int .i64 (subr x y)] 3) none)
        have hc3 := hS.t3.c2
        obtain ⟨sa, sc, rfl⟩ := own_slice hS.own
        clear hS t1
        go_wp2_with fail
        clear p2
        obtain ⟨s1, s2, s3, s4⟩ := HM.out _ hgw
        clear hgw
        go_region_law (first
            | (refine step_append_lies _ (by rfl) _ _ 22 (by rfl) (w3.heap.size + 1) 3 i0 (.int .i64 0) 1 8 Try.underlying22 hi hz0 hz1 hz2 rfl (by omega) (.slice sa k sc) k (ints ((List.range k).map fun i => subr (xs.getD i 0) (ys.getD i 0))) (by rfl) hD.own ⟨wr.heap.size, 0, none⟩ 1 1 [.int .i64 (subr x y)] (by rfl) (by rfl) (World.news_of_block (cs := #[.int .i64 (subr x y)]) (t := 3) (fr := (0, 0)) (heap_alloc_new wr _)) (by simp [Value.oneCell']) (by omega) (by unfold maxLen; omega) (by omega) (by simp; omega) _ rfl ?_; intro gg cg w4 ho4 hg4 hat hlt4; obtain ⟨t9, gw4, hE4⟩ := hD.app ho4 hg4; have hcE := t9.c2; have hfE := t9.f2; clear hD hc3 ho4 hg4 t9 gw4)
            | (go_simp; go_at_call 63; refine (subRing_s _ _ _).mono ?_; rintro e w' ⟨rfl, rfl⟩; go_simp))
        all_goals go_wp2
        all_goals go_roundw
        all_goals first
          | exact ⟨k + 1, _, by omega, by go_num, by rw [range_succ_map, HX.out]; exact hE4⟩
          | (simp [intOf]; omega)
      · obtain rfl : k = N := by omega
        have hown := hS.own
        rw [← hE.out] at hown
        obtain ⟨sa, sc, rfl⟩ := own_slice hown
        obtain ⟨p0, p1, p2', p3, p4, p5⟩ := P0.bx.t3.kept hS.gw (by simp; omega)
        have q0 := hS.t3.c0
        have q1 := hS.t3.c1
        have q2 := hS.t3.c2
        have hG := gb_none P0.bx.g0 hS.gw (fun q e => by cases e; omega)
        clear hS
        go_wp2_with fail
        refine bodyPost_ret (v := .agg #[.int .i64 R, .int .i64 C, .slice sa k sc]) (by simp [results, Try.results23, go_sem, p0, p1, p2']) rfl ?_
        refine ⟨sa, sc, by rw [hEl.out], ?_, by repeat (first | exact hG | (refine gb_setNew ?_ (by omega) _ _))⟩
        rw [hEl.out]
        exact own_base (b := w3.heap.size + 1) (by repeat (first | exact hown | (refine ownsRow_setCell_below ?_ (by show w.heap.size + 1 + 1 < w3.heap.size + 1; omega) _))) (by omega)
  · have hq' : lk r c xs r' c' ys = false := by simpa using hq
    rw [hq']
    have e1 : pN false r = 0 := rfl
    have e2 : pN false c = 0 := rfl
    have e3 : pV false (subL xs ys) = [] := rfl
    rw [e1, e2, e3]
    clear e1 e2 e3 hq
    go_enter Try.func23, Try.ntmps23
    go_wp2_with fail
    refine (l1OwnMatrix _ _ _ xs _ (h.kept B0.g0) hn).mono ?_
    rintro e w1 ⟨a1, cap1, rfl, ho, hg⟩
    replace ho := own_base ho (b' := w.heap.size + 1 + 1 + 1) B0.n
    replace B0 := B0.kept hg
    obtain ⟨p0, p1, p2, p3, p4, p5⟩ := B0.t1
    obtain ⟨q0, q1, q2, q3, q4, q5⟩ := B0.t2
    clear hg
    replace ho := own_set3 (x := .int .i64 r) (y := .int .i64 c) (z := .slice a1 xs.length cap1) ho (show w.heap.size < w.heap.size + 1 + 1 + 1 by omega)
    replace B0 := B0.set1 (.slice a1 xs.length cap1)
    have hzz := w.heap.size
    go_wp2_with fail
    clear p0 p1 p2 p3 p4 p5 q0 q1 q2 q3 q4 q5 hzz
    generalize hW : (((w1.setCell ⟨w.heap.size, 0, none⟩ (.int .i64 r)).setCell ⟨w.heap.size, 1, none⟩ (.int .i64 c)).setCell ⟨w.heap.size, 2, none⟩ (.slice a1 xs.length cap1)) = W1 at *
    clear hW
    refine (l1OwnMatrix _ _ _ ys _ (h'.kept B0.g0) hn').mono ?_
    rintro e w2 ⟨a2, cap2, rfl, ho2, hg⟩
    replace ho2 := own_base ho2 (b' := w.heap.size + 1 + 1 + 1) B0.n
    replace ho := own_kept ho hg
    replace B0 := B0.kept hg
    obtain ⟨p0, p1, p2, p3, p4, p5⟩ := B0.t2
    obtain ⟨q0, q1, q2, q3, q4, q5⟩ := B0.t1
    clear hg
    replace ho := own_set3 (x := .int .i64 r') (y := .int .i64 c') (z := .slice a2 ys.length cap2) ho (show w.heap.size + 1 < w.heap.size + 1 + 1 + 1 by omega)
    replace ho2 := own_set3 (x := .int .i64 r') (y := .int .i64 c') (z := .slice a2 ys.length cap2) ho2 (show w.heap.size + 1 < w.heap.size + 1 + 1 + 1 by omega)
    replace B0 := B0.set2 (.slice a2 ys.length cap2)
    go_wp2_with fail
    clear p0 p1 p2 p3 p4 p5 q0 q1 q2 q3 q4 q5
    generalize hW : (((w2.setCell ⟨w.heap.size + 1, 0, none⟩ (.int .i64 r')).setCell ⟨w.heap.size + 1, 1, none⟩ (.int .i64 c')).setCell ⟨w.heap.size + 1, 2, none⟩ (.slice a2 ys.length cap2)) = W2 at *
    clear hW
    have P0 : Pre w W2 r c r' c' a1 a2 cap1 cap2 xs ys := ⟨B0, ho, ho2⟩
    clear B0 ho ho2 h h'
    refine (l3Like false _ _ _ _ _ _ xs ys _ (Sees.of_own P0.o1) (Sees.of_own P0.o2) hq').mono ?_
    rintro e w3 ⟨rfl, hg⟩
    have B0 := P0.bx.kept hg
    clear hg P0
    obtain ⟨q0, q1, q2, q3, q4, q5⟩ := B0.t3
    have G0 := B0.g0
    have hz := B0.n
    clear B0
    go_wp2
    exact bodyPost_ret (v := .agg #[.int .i64 0, .int .i64 0, .slice none 0 0]) (by simp [results, Try.results23, go_sem, q0, q1, q2]) rfl ⟨none, 0, rfl, World.ownsRow_nil _ _ _ _, by repeat (first | exact G0 | (refine gb_setNew ?_ (by omega) _ _))⟩
theorem pV_len {r c r' c' : Int} {xs ys : List Int} (f : Int → Int → Int) : (pV (lk r c xs r' c' ys) (List.zipWith f xs ys)).length ≤ 25 := by
  cases hq : lk r c xs r' c' ys with
  | false => simp [pV]
  | true =>
    obtain ⟨m1, m2, rfl, rfl⟩ := lk_iff.1 hq
    obtain ⟨R, C, rfl, rfl, r1, r2, c1, c2, hl, h25⟩ := mv_dims m1
    simp [pV]; omega
theorem addV_len (r c : Int) (xs : List Int) (r' c' : Int) (ys : List Int) : (pV (lk r c xs r' c' ys) (addL xs ys)).length ≤ 25 := pV_len _
theorem subV_len (r c : Int) (xs : List Int) (r' c' : Int) (ys : List Int) : (pV (lk r c xs r' c' ys) (subL xs ys)).length ≤ 25 := pV_len _
end Go.Proofs.Ytfnajbifdilfmaa
