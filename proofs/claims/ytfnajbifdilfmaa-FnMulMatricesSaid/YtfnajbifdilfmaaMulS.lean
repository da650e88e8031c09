/- The contract of the reference's MulMatrices: it returns the product in new memory, the zero value where the matrices do not fit. Conditions: at most 2 to the 20 values. -/
import Derived.Test.YtfnajbifdilfmaaMul
import Derived.Test.YtfnajbifdilfmaaPairS
namespace Go.Proofs.Ytfnajbifdilfmaa
open Go Go.RowKit

theorem gbDrewN (w : World) (n : Nat) (row : Option Nat) : w.grownBy (w.drewN n) row := ⟨rfl, rfl, rfl, Nat.le_refl _, fun _ _ _ => rfl⟩
set_option maxHeartbeats 3200000 in
theorem mulMatrices_s (r c r' c' : Int) (v v' : Value) (xs ys : List Int) (w : World) (h : Sees w v xs) (h' : Sees w v' ys) (hn : xs.length ≤ 1048576) (hn' : ys.length ≤ 1048576) :
    Calls Try.prog 15 #[.agg #[.int .i64 r, .int .i64 c, v], .agg #[.int .i64 r', .int .i64 c', v']] w (RetM w (pN (mk r c xs r' c' ys) r) (pN (mk r c xs r' c' ys) c') (pV (mk r c xs r' c' ys) (mulV r c xs c' ys))) := by
  obtain ⟨i0, hi, hz0, hz1, hz2⟩ := info_parts info_int
  have B0 := Box3.new w r c r' c' v v' 26
  obtain ⟨a, cap, rfl⟩ := h.form
  obtain ⟨a', cap', rfl⟩ := h'.form
  by_cases hq : mk r c xs r' c' ys = true
  · rw [hq]
    have e1 : pN true r = r := rfl
    have e2 : pN true c' = c' := rfl
    have e3 : pV true (mulV r c xs c' ys) = mulV r c xs c' ys := rfl
    rw [e1, e2, e3]
    clear e1 e2 e3
    go_enter Try.func15, Try.ntmps15
    go_wp2_with fail
    refine (l1OwnMatrix _ _ _ xs _ (h.kept B0.g0) hn).mono ?_
    rintro e w1 ⟨a1, cap1, rfl, ho, hg⟩
    replace ho := own_base ho (b' := w.heap.size + 1 + 1 + 1) B0.n
    replace B0 := B0.kept hg
    obtain ⟨p0, p1, p2, p3, p4, p5⟩ := B0.t1
    obtain ⟨q0, q1, q2, q3, q4, q5⟩ := B0.t2
    clear hg
    replace ho := own_set3 (x := .int .i64 r) (y := .int .i64 c) (z := .slice a1 xs.length cap1) ho (show w.heap.size < w.heap.size + 1 + 1 + 1 by omega)
    replace B0 := B0.set1 (.slice a1 xs.length cap1)
    have hzz := w.heap.size
    go_wp2_with fail
    clear p0 p1 p2 p3 p4 p5 q0 q1 q2 q3 q4 q5 hzz
    generalize hW : (((w1.setCell ⟨w.heap.size, 0, none⟩ (.int .i64 r)).setCell ⟨w.heap.size, 1, none⟩ (.int .i64 c)).setCell ⟨w.heap.size, 2, none⟩ (.slice a1 xs.length cap1)) = W1 at *
    clear hW
    refine (l1OwnMatrix _ _ _ ys _ (h'.kept B0.g0) hn').mono ?_
    rintro e w2 ⟨a2, cap2, rfl, ho2, hg⟩
    replace ho2 := own_base ho2 (b' := w.heap.size + 1 + 1 + 1) B0.n
    replace ho := own_kept ho hg
    replace B0 := B0.kept hg
    obtain ⟨p0, p1, p2, p3, p4, p5⟩ := B0.t2
    obtain ⟨q0, q1, q2, q3, q4, q5⟩ := B0.t1
    clear hg
    replace ho := own_set3 (x := .int .i64 r') (y := .int .i64 c') (z := .slice a2 ys.length cap2) ho (show w.heap.size + 1 < w.heap.size + 1 + 1 + 1 by omega)
    replace ho2 := own_set3 (x := .int .i64 r') (y := .int .i64 c') (z := .slice a2 ys.length cap2) ho2 (show w.heap.size + 1 < w.heap.size + 1 + 1 + 1 by omega)
    replace B0 := B0.set2 (.slice a2 ys.length cap2)
    go_wp2_with fail
    clear p0 p1 p2 p3 p4 p5 q0 q1 q2 q3 q4 q5
    generalize hW : (((w2.setCell ⟨w.heap.size + 1, 0, none⟩ (.int .i64 r')).setCell ⟨w.heap.size + 1, 1, none⟩ (.int .i64 c')).setCell ⟨w.heap.size + 1, 2, none⟩ (.slice a2 ys.length cap2)) = W2 at *
    clear hW
    have P0 : Pre w W2 r c r' c' a1 a2 cap1 cap2 xs ys := ⟨B0, ho, ho2⟩
    clear B0 ho ho2 h h'
    obtain ⟨m1, m2, e4⟩ := mk_iff.1 hq
    subst e4
    refine (mvq_s true _ _ _ xs _ (Sees.of_own P0.o1) m1).mono ?_
    rintro e w3 ⟨rfl, hg⟩
    replace P0 := P0.kept hg
    clear hg
    obtain ⟨p0, p1, p2, p3, p4, p5⟩ := P0.bx.t2
    go_wp2_with fail
    refine (mvq_s true _ _ _ ys _ (Sees.of_own P0.o2) m2).mono ?_
    rintro e w3 ⟨rfl, hg⟩
    replace P0 := P0.kept hg
    clear hg p0 p1 p2 p3 p4 p5
    obtain ⟨R, K, rfl, rfl, r1, r2, k1, k2, hl, h25⟩ := mv_dims m1
    obtain ⟨K', C, hK, rfl, _, _, c1, c2, hl', h25'⟩ := mv_dims m2
    obtain rfl : K = K' := by omega
    clear hK
    have hpos : 0 < R * K := Nat.mul_pos (by omega) (by omega)
    have hpos' : 0 < K * C := Nat.mul_pos (by omega) (by omega)
    have hE : Hid (mulV R K xs C ys = (List.range (R * C)).map (mulE xs ys K C)) := by unfold Hid; rw [mulV_nat]; rfl
    have hX : Hid (xs.length = R * K) := hl
    have hY : Hid (ys.length = K * C) := hl'
    have HB := Lib.hid (mulS_bd (mv_iff.1 m1).2.2.2 (mv_iff.1 m2).2.2.2 K C)
    have HX := Lib.hid (getD_rv (mv_iff.1 m1).2.2.2)
    have HY := Lib.hid (getD_rv (mv_iff.1 m2).2.2.2)
    obtain ⟨g1, cp1, he1, _, _⟩ := own_form P0.o1 (by omega)
    obtain ⟨g2, cp2, he2, _, _⟩ := own_form P0.o2 (by omega)
    obtain rfl : a1 = some ⟨g1, 0, none⟩ := by simp at he1; exact he1.1
    obtain rfl : a2 = some ⟨g2, 0, none⟩ := by simp at he2; exact he2.1
    have hg1 : w.heap.size + 1 + 1 + 1 ≤ g1 ∧ g1 < w3.heap.size := P0.o1.lt g1 rfl
    have hg2 : w.heap.size + 1 + 1 + 1 ≤ g2 ∧ g2 < w3.heap.size := P0.o2.lt g2 rfl
    have hne : ((K : Int) != (K : Int)) = false := by simp
    clear he1 he2 hq m1 m2 hl hl' hn hn' hpos hpos' h25 h25'
    have p0 := P0.bx.t1.c0
    have p1 := P0.bx.t1.c1
    have q0 := P0.bx.t2.c0
    have q1 := P0.bx.t2.c1
    go_wp2_with fail
    have S0 := Col.start w3 R C
    have hw3 := P0.bx.n
    obtain ⟨W3, hW3⟩ : ∃ W3, W3 = w3.alloc (.cells #[.int .i64 R, .int .i64 C, .slice none 0 0] 26) := ⟨_, rfl⟩
    replace P0 := P0.kept (World.grownBy_alloc w3 (.cells #[.int .i64 R, .int .i64 C, .slice none 0 0] 26) none)
    rw [← hW3] at S0 P0 ⊢
    clear hW3 p0 p1 q0 q1
    go_loopw [6] (fun i wr => ∃ (k : Nat) (sl : Value), k ≤ R ∧ i = .int .i64 k ∧ Col W3 wr w3.heap.size R C (k * C) sl ((List.range (k * C)).map (mulE xs ys K C)))
      (fun i _ => R - (intOf i).toNat)
    case atStart => exact ⟨0, _, Nat.zero_le _, rfl, by simpa using S0⟩
    case round =>
      obtain ⟨i, sl0, hi', rfl, hS⟩ := hrel
      clear S0
      have p0 := (P0.bx.t1.kept hS.gw (by simp; omega)).c0
      by_cases hlt : i < R
      · go_wp2_with fail
        clear p0
        go_loopw [7] (fun i' wr => ∃ (j : Nat) (sl : Value), j ≤ C ∧ i' = .int .i64 j ∧ Col W3 wr w3.heap.size R C (i * C + j) sl ((List.range (i * C + j)).map (mulE xs ys K C)))
          (fun i' _ => C - (intOf i').toNat)
        case atStart => exact ⟨0, _, Nat.zero_le _, rfl, hS⟩
        case round =>
          obtain ⟨j, sl, hj, rfl, hS5⟩ := hrel
          clear hS
          have q1 := (P0.bx.t2.kept hS5.gw (by simp; omega)).c1
          by_cases hjl : j < C
          · go_wp2_with fail
            clear q1
            go_loopw [8, 9] (fun s i' wr => ∃ k : Nat, k ≤ K ∧ i' = .int .i64 k ∧ s = .int .i64 (mulS xs ys K C i j k) ∧ Col W3 wr w3.heap.size R C (i * C + j) sl ((List.range (i * C + j)).map (mulE xs ys K C)))
              (fun _ i' _ => K - (intOf i').toNat)
            case atStart => exact ⟨0, Nat.zero_le _, rfl, rfl, hS5⟩
            case round =>
              obtain ⟨k, hk, rfl, rfl, hS6⟩ := hrel
              clear hS5
              have t1 := P0.bx.t1.kept hS6.gw (by simp; omega)
              have t2 := P0.bx.t2.kept hS6.gw (by simp; omega)
              have p1 := t1.c1
              by_cases hkl : k < K
              · have p2 := t1.c2
                have q1 := t2.c1
                have q2 := t2.c2
                have hxl : i * K + k < R * K := lt_of _ _ _ _ hlt hkl
                have hyl : k * C + j < K * C := lt_of _ _ _ _ hkl hjl
                have hx0 := hS6.gw.cell (own_cell P0.o1 (i * K + k) (by rw [hX.out]; exact hxl)) (by simp; omega)
                have hy0 := hS6.gw.cell (own_cell P0.o2 (k * C + j) (by rw [hY.out]; exact hyl)) (by simp; omega)
                have hp := sq_bd (HX.out (i * K + k)).1 (HX.out (i * K + k)).2 (HY.out (k * C + j)).1 (HY.out (k * C + j)).2
                have hb := HB.out i j k (by omega)
                obtain ⟨s, hs⟩ : ∃ s, s = mulS xs ys K C i j k := ⟨_, rfl⟩
                obtain ⟨x, hx⟩ : ∃ x, x = xs.getD (i * K + k) 0 := ⟨_, rfl⟩
                obtain ⟨y, hy⟩ : ∃ y, y = ys.getD (k * C + j) 0 := ⟨_, rfl⟩
                have hsum : Hid (mulS xs ys K C i j (k + 1) = s + x * y) := by unfold Hid; rw [hs, hx, hy]; rfl
                rw [← hx] at hx0
                rw [← hy] at hy0
                rw [← hx, ← hy] at hp
                rw [← hs] at hb ⊢
                have ew1 : IntKind.i64.wrap (x * y) = x * y := by rw [IntKind.wrap_i64]; omega
                have ew2 : IntKind.i64.wrap (s + x * y) = s + x * y := by rw [IntKind.wrap_i64]; omega
                have a0 : (0 : Int) ≤ (i : Int) * (K : Int) := Int.mul_nonneg (by omega) (by omega)
                have a1 : (i : Int) * (K : Int) ≤ 25 := by
                  have : i * K ≤ 5 * 5 := Nat.mul_le_mul (by omega) k2
                  exact_mod_cast this
                have b0 : (0 : Int) ≤ (k : Int) * (C : Int) := Int.mul_nonneg (by omega) (by omega)
                have b1 : (k : Int) * (C : Int) ≤ 25 := by
                  have : k * C ≤ 5 * 5 := Nat.mul_le_mul (by omega) c2
                  exact_mod_cast this
                have xl : (i : Int) * (K : Int) + (k : Int) < (xs.length : Int) := by rw [hX.out]; exact_mod_cast hxl
                have yl : (k : Int) * (C : Int) + (j : Int) < (ys.length : Int) := by rw [hY.out]; exact_mod_cast hyl
                have ew3 : IntKind.i64.wrap ((i : Int) * (K : Int)) = (i : Int) * (K : Int) := by rw [IntKind.wrap_i64]; omega
                have ew4 : IntKind.i64.wrap ((i : Int) * (K : Int) + (k : Int)) = (i : Int) * (K : Int) + (k : Int) := by rw [IntKind.wrap_i64]; omega
                have ew5 : IntKind.i64.wrap ((k : Int) * (C : Int)) = (k : Int) * (C : Int) := by rw [IntKind.wrap_i64]; omega
                have ew6 : IntKind.i64.wrap ((k : Int) * (C : Int) + (j : Int)) = (k : Int) * (C : Int) + (j : Int) := by rw [IntKind.wrap_i64]; omega
                have x0 : (0 : Int) ≤ (i : Int) * (K : Int) + (k : Int) := by omega
                have y0 : (0 : Int) ≤ (k : Int) * (C : Int) + (j : Int) := by omega
                have et1 : ((i : Int) * (K : Int) + (k : Int)).toNat = i * K + k := by
                  have : (i : Int) * (K : Int) + (k : Int) = ((i * K + k : Nat) : Int) := by simp
                  rw [this, Int.toNat_natCast]
                have et2 : ((k : Int) * (C : Int) + (j : Int)).toNat = k * C + j := by
                  have : (k : Int) * (C : Int) + (j : Int) = ((k * C + j : Nat) : Int) := by simp
                  rw [this, Int.toNat_natCast]
                have hkK : (k : Int) < (K : Int) := by exact_mod_cast hkl
                have hS7 := Lib.hid (hS6.kept (gb_drew _ none))
                clear hx hy hs hp hb t1 t2 hS6 hxl hyl
                go_wp2_with fail
                go_region_held3 (fun w' => w'.cell? ⟨w.heap.size, 1, none⟩ = some (.int .i64 K) ∧ w'.cell? ⟨w.heap.size, 2, none⟩ = some (.slice (some ⟨g1, 0, none⟩) xs.length cap1) ∧ w'.cell? ⟨w.heap.size + 1, 1, none⟩ = some (.int .i64 C) ∧ w'.cell? ⟨w.heap.size + 1, 2, none⟩ = some (.slice (some ⟨g2, 0, none⟩) ys.length cap2) ∧ w'.cell? ⟨g1, i * K + k, none⟩ = some (.int .i64 x) ∧ w'.cell? ⟨g2, k * C + j, none⟩ = some (.int .i64 y)) (go_keep) (first | fail)
                go_wp2
                go_roundw
                case rel => exact ⟨k + 1, by omega, by go_num, by rw [hsum.out], hS7.out⟩
                case measure => simp [intOf]; omega
              · obtain rfl : k = K := by omega
                obtain ⟨s, hs⟩ : ∃ s, s = mulS xs ys k C i j k := ⟨_, rfl⟩
                rw [← hs]
                have HXE : Hid (mulE xs ys k C (i * C + j) = s % 4096) := by unfold Hid; rw [mulE_at hjl, hs]
                have hkr : i * C + j < 30 := by
                  have : i * C ≤ 5 * 5 := Nat.mul_le_mul (by omega) c2
                  omega
                have zB := hS6.t3.lt
                have hz5 := t1.lt
                have hD := (hS6.kept (gb_drew wr none)).kept (World.grownBy_alloc wr.drew (.cells #[.int .i64 (s % 4096)] 3) none)
                have hc3 := hS6.t3.c2
                obtain ⟨sa, sc, rfl⟩ := own_slice hS6.own
                clear hS6 t1 t2 hs
                go_wp2_with fail
                clear p1
                go_region_law (first
                  | (refine step_append_lies _ (by rfl) _ _ 22 (by rfl) (w3.heap.size + 1) 3 i0 (.int .i64 0) 1 8 Try.underlying22 hi hz0 hz1 hz2 rfl (by omega) (.slice sa (i * C + j) sc) (i * C + j) (ints ((List.range (i * C + j)).map (mulE xs ys k C))) (by rfl) hD.own ⟨wr.heap.size, 0, none⟩ 1 1 [.int .i64 (s % 4096)] (by rfl) (by rfl) (World.news_of_block (cs := #[.int .i64 (s % 4096)]) (t := 3) (fr := (0, 0)) (heap_alloc_new wr _)) (by simp [Value.oneCell']) (by omega) (by unfold maxLen; omega) (by omega) (by simp; omega) _ rfl ?_; intro gg cg w4 ho4 hg4 hat hlt4; obtain ⟨t9, gw4, hE4⟩ := hD.app ho4 hg4; have hcE := t9.c2; have hfE := t9.f2; clear hD hc3 ho4 hg4 t9 gw4)
                  | (go_simp; go_at_call 50; refine (l1Ring _ _).mono ?_; rintro e w' ⟨rfl, rfl⟩; go_simp))
                all_goals go_wp2
                all_goals go_roundw
                all_goals first
                  | exact ⟨j + 1, _, by omega, by go_num, by rw [← Nat.add_assoc, range_succ_map, HXE.out]; exact hE4⟩
                  | (simp [intOf]; omega)
          · obtain rfl : j = C := by omega
            go_wp2_with fail
            go_roundw
            case rel => exact ⟨i + 1, _, by omega, by go_num, by rw [Nat.add_mul, Nat.one_mul]; exact hS5⟩
            case measure => simp [intOf]; omega
      · obtain rfl : i = R := by omega
        have hown := hS.own
        rw [← hE.out] at hown
        obtain ⟨sa, sc, rfl⟩ := own_slice hown
        obtain ⟨p0', p1, p2', p3, p4, p5⟩ := P0.bx.t3.kept hS.gw (by simp; omega)
        have q0 := hS.t3.c0
        have q1 := hS.t3.c1
        have q2 := hS.t3.c2
        have hG := gb_none P0.bx.g0 hS.gw (fun q e => by cases e; omega)
        have e8 : (mulV i K xs C ys).length = i * C := by rw [hE.out]; simp
        clear hS
        go_wp2_with fail
        refine bodyPost_ret (v := .agg #[.int .i64 i, .int .i64 C, .slice sa (i * C) sc]) (by simp [results, Try.results15, go_sem, p0', p1, p2']) rfl ?_
        refine ⟨sa, sc, by rw [e8], ?_, by repeat (first | exact hG | (refine gb_setNew ?_ (by omega) _ _))⟩
        rw [e8]
        exact own_base (b := w3.heap.size + 1) (by repeat (first | exact hown | (refine ownsRow_setCell_below ?_ (by show w.heap.size + 1 + 1 < w3.heap.size + 1; omega) _))) (by omega)
  · have hq' : mk r c xs r' c' ys = false := by simpa using hq
    rw [hq']
    have e1 : pN false r = 0 := rfl
    have e2 : pN false c' = 0 := rfl
    have e3 : pV false (mulV r c xs c' ys) = [] := rfl
    rw [e1, e2, e3]
    clear e1 e2 e3 hq'
    go_enter Try.func15, Try.ntmps15
    go_wp2_with fail
    refine (l1OwnMatrix _ _ _ xs _ (h.kept B0.g0) hn).mono ?_
    rintro e w1 ⟨a1, cap1, rfl, ho, hg⟩
    replace ho := own_base ho (b' := w.heap.size + 1 + 1 + 1) B0.n
    replace B0 := B0.kept hg
    obtain ⟨p0, p1, p2, p3, p4, p5⟩ := B0.t1
    obtain ⟨q0, q1, q2, q3, q4, q5⟩ := B0.t2
    clear hg
    replace ho := own_set3 (x := .int .i64 r) (y := .int .i64 c) (z := .slice a1 xs.length cap1) ho (show w.heap.size < w.heap.size + 1 + 1 + 1 by omega)
    replace B0 := B0.set1 (.slice a1 xs.length cap1)
    have hzz := w.heap.size
    go_wp2_with fail
    clear p0 p1 p2 p3 p4 p5 q0 q1 q2 q3 q4 q5 hzz
    generalize hW : (((w1.setCell ⟨w.heap.size, 0, none⟩ (.int .i64 r)).setCell ⟨w.heap.size, 1, none⟩ (.int .i64 c)).setCell ⟨w.heap.size, 2, none⟩ (.slice a1 xs.length cap1)) = W1 at *
    clear hW
    refine (l1OwnMatrix _ _ _ ys _ (h'.kept B0.g0) hn').mono ?_
    rintro e w2 ⟨a2, cap2, rfl, ho2, hg⟩
    replace ho2 := own_base ho2 (b' := w.heap.size + 1 + 1 + 1) B0.n
    replace ho := own_kept ho hg
    replace B0 := B0.kept hg
    obtain ⟨p0, p1, p2, p3, p4, p5⟩ := B0.t2
    obtain ⟨q0, q1, q2, q3, q4, q5⟩ := B0.t1
    clear hg
    replace ho := own_set3 (x := .int .i64 r') (y := .int .i64 c') (z := .slice a2 ys.length cap2) ho (show w.heap.size + 1 < w.heap.size + 1 + 1 + 1 by omega)
    replace ho2 := own_set3 (x := .int .i64 r') (y := .int .i64 c') (z := .slice a2 ys.length cap2) ho2 (show w.heap.size + 1 < w.heap.size + 1 + 1 + 1 by omega)
    replace B0 := B0.set2 (.slice a2 ys.length cap2)
    go_wp2_with fail
    clear p0 p1 p2 p3 p4 p5 q0 q1 q2 q3 q4 q5
    generalize hW : (((w2.setCell ⟨w.heap.size + 1, 0, none⟩ (.int .i64 r')).setCell ⟨w.heap.size + 1, 1, none⟩ (.int .i64 c')).setCell ⟨w.heap.size + 1, 2, none⟩ (.slice a2 ys.length cap2)) = W2 at *
    clear hW
    have P0 : Pre w W2 r c r' c' a1 a2 cap1 cap2 xs ys := ⟨B0, ho, ho2⟩
    clear B0 ho ho2 h h'
    by_cases m1 : mv r c xs = true
    · refine (mvq_s true _ _ _ xs _ (Sees.of_own P0.o1) m1).mono ?_
      rintro e w3 ⟨rfl, hg⟩
      replace P0 := P0.kept hg
      clear hg
      obtain ⟨p0, p1, p2, p3, p4, p5⟩ := P0.bx.t2
      go_wp2_with fail
      by_cases m2 : mv r' c' ys = true
      · have hne : (c != r') = true := by
          cases hd : decide (c = r') with
          | false => simpa using hd
          | true => exact absurd (mk_iff.2 ⟨m1, m2, by simpa using hd⟩) hq
        refine (mvq_s true _ _ _ ys _ (Sees.of_own P0.o2) m2).mono ?_
        rintro e w4 ⟨rfl, hg⟩
        have B0 := P0.bx.kept hg
        clear hg P0 p0 p1 p2 p3 p4 p5
        have p1 := B0.t1.c1
        have p0 := B0.t2.c0
        obtain ⟨q0, q1, q2, q3, q4, q5⟩ := B0.t3
        have G0 := B0.g0
        have hz := B0.n
        clear B0
        go_wp2
        exact bodyPost_ret (v := .agg #[.int .i64 0, .int .i64 0, .slice none 0 0]) (by simp [results, Try.results15, go_sem, q0, q1, q2]) rfl ⟨none, 0, rfl, World.ownsRow_nil _ _ _ _, by repeat (first | exact G0 | (refine gb_setNew ?_ (by omega) _ _))⟩
      · have m2' : mv r' c' ys = false := by simpa using m2
        refine (mvq_s false _ _ _ ys _ (Sees.of_own P0.o2) m2').mono ?_
        rintro e w4 ⟨rfl, hg⟩
        have B0 := P0.bx.kept hg
        clear hg P0 p0 p1 p2 p3 p4 p5
        obtain ⟨q0, q1, q2, q3, q4, q5⟩ := B0.t3
        have G0 := B0.g0
        have hz := B0.n
        clear B0
        go_wp2
        exact bodyPost_ret (v := .agg #[.int .i64 0, .int .i64 0, .slice none 0 0]) (by simp [results, Try.results15, go_sem, q0, q1, q2]) rfl ⟨none, 0, rfl, World.ownsRow_nil _ _ _ _, by repeat (first | exact G0 | (refine gb_setNew ?_ (by omega) _ _))⟩
    · have m1' : mv r c xs = false := by simpa using m1
      refine (mvq_s false _ _ _ xs _ (Sees.of_own P0.o1) m1').mono ?_
      rintro e w3 ⟨rfl, hg⟩
      have B0 := P0.bx.kept hg
      clear hg P0
      obtain ⟨q0, q1, q2, q3, q4, q5⟩ := B0.t3
      have G0 := B0.g0
      have hz := B0.n
      clear B0
      go_wp2
      exact bodyPost_ret (v := .agg #[.int .i64 0, .int .i64 0, .slice none 0 0]) (by simp [results, Try.results15, go_sem, q0, q1, q2]) rfl ⟨none, 0, rfl, World.ownsRow_nil _ _ _ _, by repeat (first | exact G0 | (refine gb_setNew ?_ (by omega) _ _))⟩
end Go.Proofs.Ytfnajbifdilfmaa
