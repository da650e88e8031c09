/- The contracts of AddMatrices and SubMatrices, of the program and of the reference: each returns the matrix of sums or differences in new memory, the zero value where the matrices are not alike. Conditions: at most 2 to the 20 values for the reference's. -/
import Derived.Test.YtfnajbifdilfmaaCol
import Derived.Deep.RegionHeldLaw
namespace Go.Proofs.Ytfnajbifdilfmaa
open Go Go.RowKit

/-- Both matrices are valid and have the same sides. -/
def lk (r c : Int) (xs : List Int) (r' c' : Int) (ys : List Int) : Bool := mv r c xs && mv r' c' ys && decide (r = r') && decide (c = c')
def pN (q : Bool) (n : Int) : Int := if q then n else 0
def pV (q : Bool) (l : List Int) : List Int := if q then l else []
theorem lk_iff {r c r' c' : Int} {xs ys : List Int} : lk r c xs r' c' ys = true ↔ mv r c xs = true ∧ mv r' c' ys = true ∧ r = r' ∧ c = c' := by
  simp [lk, and_assoc]
theorem zip_range (f : Int → Int → Int) {xs ys : List Int} {n : Nat} (hx : xs.length = n) (hy : ys.length = n) : List.zipWith f xs ys = (List.range n).map fun i => f (xs.getD i 0) (ys.getD i 0) := by
  apply List.ext_getElem
  · simp [hx, hy]
  · intro i h1 h2
    have h3 : i < xs.length := by simp at h1; omega
    have h4 : i < ys.length := by simp at h1; omega
    simp [List.getD_eq_getElem?_getD, h3, h4]
theorem Sees.at_pos {w : World} {v : Value} {xs : List Int} (h : Sees w v xs) (hp : 0 < xs.length) : ∃ b o cap : Nat, v = .slice (some ⟨b, o, none⟩) xs.length cap ∧ ∀ k, k < xs.length → w.cell? ⟨b, o + k, none⟩ = some (.int .i64 (xs.getD k 0)) := by
  obtain ⟨a, cap, rfl, _, _, hc⟩ := h
  obtain ⟨blk, off, rfl, hcell⟩ := hc (by intro e; rw [e] at hp; simp at hp)
  exact ⟨blk, off, cap, rfl, hcell⟩
theorem Sees.form {w : World} {v : Value} {xs : List Int} (h : Sees w v xs) : ∃ a cap, v = .slice a xs.length cap := by
  obtain ⟨a, cap, e, _⟩ := h; exact ⟨a, cap, e⟩
theorem mvq (q : Bool) (r c : Int) (v : Value) (xs : List Int) (w : World) (h : Sees w v xs) (hq : mv r c xs = q) : Calls Try.prog 29 #[.agg #[.int .i64 r, .int .i64 c, v]] w fun e w' => e = .returned (.bool q) ∧ w.grownBy w' none := by
  subst hq; exact matrixValid r c v xs w h
theorem mvq_s (q : Bool) (r c : Int) (v : Value) (xs : List Int) (w : World) (h : Sees w v xs) (hq : mv r c xs = q) : Calls Try.prog 49 #[.agg #[.int .i64 r, .int .i64 c, v]] w fun e w' => e = .returned (.bool q) ∧ w.grownBy w' none := by
  subst hq; exact matrixValid_s r c v xs w h
/-- Three boxes of two matrices and of a zero result, the newest three blocks. -/
structure Box3 (w W : World) (r c r' c' : Int) (v v' : Value) : Prop where
  t1 : Three W w.heap.size (.int .i64 r) (.int .i64 c) v
  t2 : Three W (w.heap.size + 1) (.int .i64 r') (.int .i64 c') v'
  t3 : Three W (w.heap.size + 1 + 1) (.int .i64 0) (.int .i64 0) (.slice none 0 0)
  g0 : w.grownBy W none
  n : w.heap.size + 1 + 1 + 1 ≤ W.heap.size
theorem Box3.new (w : World) (r c r' c' : Int) (v v' : Value) (T : TypeId) :
    Box3 w (((w.alloc (.cells #[.int .i64 r, .int .i64 c, v] T)).alloc (.cells #[.int .i64 r', .int .i64 c', v'] T)).alloc (.cells #[.int .i64 0, .int .i64 0, .slice none 0 0] T)) r c r' c' v v' := by
  refine ⟨((Three.new w _ _ _ _).alloc _).alloc _, ?_, ?_, gbt (World.grownBy_alloc _ _ _) (gbt (World.grownBy_alloc _ _ _) (World.grownBy_alloc _ _ _)), by simp⟩
  · simpa using (Three.new (w.alloc (.cells #[.int .i64 r, .int .i64 c, v] T)) (.int .i64 r') (.int .i64 c') v' T).alloc (.cells #[.int .i64 0, .int .i64 0, .slice none 0 0] T)
  · simpa using Three.new ((w.alloc (.cells #[.int .i64 r, .int .i64 c, v] T)).alloc (.cells #[.int .i64 r', .int .i64 c', v'] T)) (.int .i64 0) (.int .i64 0) (.slice none 0 0) T
theorem Box3.kept {w W w' : World} {r c r' c' : Int} {v v' : Value} (h : Box3 w W r c r' c' v v') (hg : W.grownBy w' none) : Box3 w w' r c r' c' v v' :=
  ⟨h.t1.kept hg (by simp), h.t2.kept hg (by simp), h.t3.kept hg (by simp), gbt h.g0 hg, Nat.le_trans h.n hg.size⟩
theorem sameSides (q : Bool) (r c r' c' : Int) (v v' : Value) (w : World) (hq : (decide (r = r') && decide (c = c')) = q) :
    Calls Try.prog 74 #[.agg #[.int .i64 r, .int .i64 c, v], .agg #[.int .i64 r', .int .i64 c', v']] w fun e w' => e = .returned (.bool q) ∧ w.grownBy w' none := by
  have G0 : w.grownBy ((w.alloc (.cells #[.int .i64 r, .int .i64 c, v] 26)).alloc (.cells #[.int .i64 r', .int .i64 c', v'] 26)) none := gbt (World.grownBy_alloc _ _ _) (World.grownBy_alloc _ _ _)
  by_cases hr : r = r'
  · have h1 : (r == r') = true := by simp [hr]
    by_cases hc : c = c'
    · have h2 : (c == c') = true := by simp [hc]
      obtain rfl : q = true := by rw [← hq]; simp [hr, hc]
      clear hr hc hq
      go_enter Try.func74, Try.ntmps74
      go_wp2
      go_ret
      exact ⟨rfl, G0⟩
    · have h2 : (c == c') = false := by simp [hc]
      obtain rfl : q = false := by rw [← hq]; simp [hc]
      clear hr hc hq
      go_enter Try.func74, Try.ntmps74
      go_wp2
      go_ret
      exact ⟨rfl, G0⟩
  · have h1 : (r == r') = false := by simp [hr]
    obtain rfl : q = false := by rw [← hq]; simp [hr]
    clear hr hq
    go_enter Try.func74, Try.ntmps74
    go_wp2
    go_ret
    exact ⟨rfl, G0⟩
/-- The state of a matrix that is filled value by value: the numbers at the places in D stand. -/
structure PS (w : World) (b0 B g N : Nat) (r c r' c' R C : Int) (v v' : Value) (E : Nat → Int) (wr : World) (D : Nat → Bool) : Prop where
  own : wr.ownsRow b0 3 1 (.slice (some ⟨g, 0, none⟩) N N) N (ints (part E (fun _ => 0) N D))
  bx : Box3 w wr r c r' c' v v'
  t4 : Three wr B (.int .i64 R) (.int .i64 C) (.slice (some ⟨g, 0, none⟩) N N)
  n1 : w.heap.size + 1 + 1 + 1 ≤ g
  n2 : g ≠ B
  n3 : w.heap.size + 1 + 1 + 1 ≤ B
theorem PS.kept {w : World} {b0 B g N : Nat} {r c r' c' R C : Int} {v v' : Value} {E : Nat → Int} {wr w' : World} {D : Nat → Bool} (h : PS w b0 B g N r c r' c' R C v v' E wr D) (hg : wr.grownBy w' none) : PS w b0 B g N r c r' c' R C v v' E w' D :=
  ⟨own_kept h.own hg, h.bx.kept hg, h.t4.kept hg (by simp), h.n1, h.n2, h.n3⟩
theorem PS.congr {w : World} {b0 B g N : Nat} {r c r' c' R C : Int} {v v' : Value} {E : Nat → Int} {wr : World} {D D' : Nat → Bool} (h : PS w b0 B g N r c r' c' R C v v' E wr D) (e : ∀ i, i < N → D i = D' i) : PS w b0 B g N r c r' c' R C v v' E wr D' :=
  ⟨by rw [← part_congr e]; exact h.own, h.bx, h.t4, h.n1, h.n2, h.n3⟩
theorem PS.store {w : World} {b0 B g N : Nat} {r c r' c' R C : Int} {v v' : Value} {E : Nat → Int} {wr : World} {D D' : Nat → Bool} (h : PS w b0 B g N r c r' c' R C v v' E wr D) (j : Nat) (x : Int) (hx : x = E j) (hD : ∀ i, i < N → D' i = (D i || i == j)) :
    PS w b0 B g N r c r' c' R C v v' E (wr.setCell ⟨g, j, none⟩ (.int .i64 x)) D' := by
  subst hx
  obtain ⟨s1, s2⟩ := own_stored h.own j (E j)
  rw [part_set (D' := D') hD] at s1
  have n1 := h.n1
  have n2 := h.n2
  exact ⟨s1, ⟨h.bx.t1.kept s2 (by simp; omega), h.bx.t2.kept s2 (by simp; omega), h.bx.t3.kept s2 (by simp; omega), gb_setNew h.bx.g0 (by omega) _ _, Nat.le_trans h.bx.n s2.size⟩, h.t4.kept s2 (by simp; omega), h.n1, h.n2, h.n3⟩
set_option maxHeartbeats 1600000 in
theorem pairAdd (r c r' c' : Int) (v v' : Value) (xs ys : List Int) (w : World) (h : Sees w v xs) (h' : Sees w v' ys) :
    Calls Try.prog 61 #[.agg #[.int .i64 r, .int .i64 c, v], .agg #[.int .i64 r', .int .i64 c', v'], .func (.func 62) #[] #[]] w (RetM w (pN (lk r c xs r' c' ys) r) (pN (lk r c xs r' c' ys) c) (pV (lk r c xs r' c' ys) (addL xs ys))) := by
  have B0 := Box3.new w r c r' c' v v' 26
  have hs := h.kept B0.g0
  have hs' := h'.kept B0.g0
  by_cases hq : lk r c xs r' c' ys = true
  · obtain ⟨m1, m2, rfl, rfl⟩ := lk_iff.1 hq
    rw [hq]
    obtain ⟨R, C, rfl, rfl, r1, r2, c1, c2, hl, h25⟩ := mv_dims m1
    have hl' : ys.length = R * C := by
      have := (mv_iff.1 m2).2.2.1
      exact_mod_cast this
    have hpos : 0 < R * C := Nat.mul_pos (by omega) (by omega)
    obtain ⟨bx, ox, cx, rfl, hcx⟩ := h.at_pos (by omega)
    obtain ⟨bY, oy, cy, rfl, hcy⟩ := h'.at_pos (by omega)
    obtain ⟨N, hN⟩ : ∃ N, N = R * C := ⟨_, rfl⟩
    have hE : Hid (addL xs ys = (List.range N).map fun i => addr (xs.getD i 0) (ys.getD i 0)) := zip_range addr (by omega) (by omega)
    rw [hl, ← hN] at hcx B0 hs hs' ⊢
    rw [hl', ← hN] at hcy B0 hs hs' ⊢
    have e1 : pN true (R : Int) = R := rfl
    have e2 : pN true (C : Int) = C := rfl
    have e3 : pV true (addL xs ys) = addL xs ys := rfl
    rw [e1, e2, e3]
    clear e1 e2 e3 hq
    have HX := Lib.hid hcx
    have HY := Lib.hid hcy
    have hN25 : N ≤ 25 := by omega
    have HN := Lib.hid hN
    clear hcx hcy h h' hl hl' hN
    go_enter Try.func61, Try.ntmps61
    go_wp2_with fail
    refine (mvq true _ _ _ xs _ hs m1).mono ?_
    rintro e w1 ⟨rfl, hg⟩
    replace B0 := B0.kept hg
    replace hs := hs.kept hg
    replace hs' := hs'.kept hg
    clear hg
    obtain ⟨p0, p1, p2, p3, p4, p5⟩ := B0.t2
    go_wp2_with fail
    refine (mvq true _ _ _ ys _ hs' m2).mono ?_
    rintro e w2 ⟨rfl, hg⟩
    replace B0 := B0.kept hg
    replace hs := hs.kept hg
    clear hg p0 p1 p2 p3 p4 p5 hs'
    obtain ⟨p0, p1, p2, p3, p4, p5⟩ := B0.t1
    obtain ⟨q0, q1, q2, q3, q4, q5⟩ := B0.t2
    go_wp2_with fail
    refine (sameSides true _ _ _ _ _ _ _ (by simp)).mono ?_
    rintro e w3 ⟨rfl, hg⟩
    replace B0 := B0.kept hg
    clear hg p0 p1 p2 p3 p4 p5 q0 q1 q2 q3 q4 q5
    obtain ⟨p0, p1, p2, p3, p4, p5⟩ := B0.t1
    go_wp2_with fail
    refine (emptyMatrix R C r2 c2 _).mono ?_
    rintro e w4 ⟨g, rfl, ho, hg⟩
    rw [← HN.out] at ho ⊢
    obtain ⟨hg1, hg2⟩ : w3.heap.size ≤ g ∧ g < w4.heap.size := by
      have := ho.lt g rfl; exact this
    replace ho : w4.ownsRow w3.heap.size 3 1 (.slice (some ⟨g, 0, none⟩) N N) N (ints (part (fun i => addr (xs.getD i 0) (ys.getD i 0)) (fun _ => 0) N (fun k => decide (k < 0)))) := by
      rw [part_none (by intro i _; simp)]; exact ho
    have T3 := Three.new w4 (.int .i64 R) (.int .i64 C) (.slice (some ⟨g, 0, none⟩) N N) 26
    have hn3 := B0.n
    have S0 : PS w w3.heap.size w4.heap.size g N R C R C R C (.slice (some ⟨bx, ox, none⟩) N cx) (.slice (some ⟨bY, oy, none⟩) N cy) (fun i => addr (xs.getD i 0) (ys.getD i 0)) (w4.alloc (.cells #[.int .i64 R, .int .i64 C, .slice (some ⟨g, 0, none⟩) N N] 26)) (fun k => decide (k < 0)) :=
      ⟨ho.alloc _, (B0.kept hg).kept (World.grownBy_alloc _ _ _), T3, by omega, by omega, by have := hg.size; omega⟩
    clear ho T3 hg B0 p0 p1 p2 p3 p4 p5 hs
    have q0 := S0.t4.c0
    have q1 := S0.t4.c1
    have q2 := S0.t4.c2
    have p2 := S0.bx.t1.c2
    go_wp2_with fail
    clear q0 q1 q2 p2
    go_loopw [33] (fun i wr => ∃ k : Nat, k ≤ N ∧ i = .int .i64 k ∧ PS w w3.heap.size w4.heap.size g N R C R C R C (.slice (some ⟨bx, ox, none⟩) N cx) (.slice (some ⟨bY, oy, none⟩) N cy) (fun i => addr (xs.getD i 0) (ys.getD i 0)) wr (fun q => decide (q < k)))
      (fun i _ => N - (intOf i).toNat)
    case atStart => exact ⟨0, Nat.zero_le _, rfl, S0⟩
    case round =>
      obtain ⟨k, hk, rfl, hS⟩ := hrel
      clear S0
      by_cases hlt : k < N
      · have hx0 := hS.bx.g0.cell (HX.out k hlt) (by simp)
        have hy0 := hS.bx.g0.cell (HY.out k hlt) (by simp)
        obtain ⟨x, hx⟩ : ∃ x, x = xs.getD k 0 := ⟨_, rfl⟩
        obtain ⟨y, hy⟩ : ∃ y, y = ys.getD k 0 := ⟨_, rfl⟩
        rw [← hx] at hx0
        rw [← hy] at hy0
        have hini : (k : Int) < (N : Int) := by exact_mod_cast hlt
        have hkb : k < 26 := by omega
        have hk0 : (0 : Int) ≤ (k : Int) := by omega
        have S' := (hS.store k (addr x y) (by rw [hx, hy]) (D' := fun q => decide (q < k + 1)) (by
          intro q _
          rw [Bool.eq_iff_iff]
          simp only [decide_eq_true_eq, Bool.or_eq_true, beq_iff_eq]
          omega)).kept (gb_drew _ none)
        have hy1 := S'.bx.g0.cell (HY.out k hlt) (by simp)
        rw [← hy] at hy1
        have K1 := Lib.hid (And.intro S'.bx.t2.c2 (And.intro S'.t4.c2 hy1))
        clear hy1
        have hold := own_cell hS.own k (by simpa using hlt)
        have hfz := hS.own.frozenAt k
        have q2 := hS.bx.t2.c2
        have p2 := hS.t4.c2
        clear hS hx hy
        go_wp2_with fail
        go_region_held3 (fun w' => w'.cell? ⟨w.heap.size + 1, 2, none⟩ = some (.slice (some ⟨bY, oy, none⟩) N cy) ∧ w'.cell? ⟨w4.heap.size, 2, none⟩ = some (.slice (some ⟨g, 0, none⟩) N N) ∧ w'.cell? ⟨bY, oy + k, none⟩ = some (.int .i64 y)) (first | exact K1.out | go_keep)
          (first | (go_at_call 62; refine (addRing _ _ _).mono ?_; rintro e w' ⟨rfl, rfl⟩))
        go_wp2
        go_roundw
        case rel => exact ⟨k + 1, by omega, by go_num, S'⟩
        case measure => simp [intOf]; omega
      · obtain rfl : k = N := by omega
        have hown := hS.own
        rw [part_all (by intro q hq; simpa using hq)] at hown
        rw [← hE.out] at hown
        obtain ⟨p0, p1, p2, p3, p4, p5⟩ := hS.bx.t3
        have q0 := hS.t4.c0
        have q1 := hS.t4.c1
        have q2 := hS.t4.c2
        have hG := hS.bx.g0
        have e8 : (addL xs ys).length = k := by rw [hE.out]; simp
        clear hS
        go_wp2_with fail
        refine bodyPost_ret (v := .agg #[.int .i64 R, .int .i64 C, .slice (some ⟨g, 0, none⟩) k k]) (by simp [results, Try.results61, go_sem, p0, p1, p2]) rfl ?_
        have e9 : RetM w R C (addL xs ys) = RetM w R C (addL xs ys) := rfl
        refine ⟨some ⟨g, 0, none⟩, k, by rw [e8], ?_, by repeat (first | exact hG | (refine gb_setNew ?_ (by omega) _ _))⟩
        rw [e8]
        exact own_base (b := w3.heap.size) (by repeat (first | exact hown | (refine ownsRow_setCell_below ?_ (by show w.heap.size + 1 + 1 < w3.heap.size; omega) _))) (by omega)
  · have hq' : lk r c xs r' c' ys = false := by simpa using hq
    rw [hq']
    have e1 : pN false r = 0 := rfl
    have e2 : pN false c = 0 := rfl
    have e3 : pV false (addL xs ys) = [] := rfl
    rw [e1, e2, e3]
    obtain ⟨a, cap, rfl⟩ := h.form
    obtain ⟨a', cap', rfl⟩ := h'.form
    clear e1 e2 e3 hq' h h'
    by_cases m1 : mv r c xs = true
    · by_cases m2 : mv r' c' ys = true
      · have hsd : (decide (r = r') && decide (c = c')) = false := by
          cases hd : (decide (r = r') && decide (c = c')) with
          | false => rfl
          | true => exact absurd (lk_iff.2 ⟨m1, m2, by simpa using hd⟩) hq
        go_enter Try.func61, Try.ntmps61
        go_wp2_with fail
        refine (mvq true _ _ _ xs _ hs m1).mono ?_
        rintro e w1 ⟨rfl, hg⟩
        replace B0 := B0.kept hg
        replace hs' := hs'.kept hg
        clear hg hs
        obtain ⟨p0, p1, p2, p3, p4, p5⟩ := B0.t2
        go_wp2_with fail
        refine (mvq true _ _ _ ys _ hs' m2).mono ?_
        rintro e w2 ⟨rfl, hg⟩
        replace B0 := B0.kept hg
        clear hg p0 p1 p2 p3 p4 p5 hs'
        obtain ⟨p0, p1, p2, p3, p4, p5⟩ := B0.t1
        obtain ⟨q0, q1, q2, q3, q4, q5⟩ := B0.t2
        go_wp2_with fail
        refine (sameSides false _ _ _ _ _ _ _ hsd).mono ?_
        rintro e w3 ⟨rfl, hg⟩
        replace B0 := B0.kept hg
        clear hg p0 p1 p2 p3 p4 p5 q0 q1 q2 q3 q4 q5
        obtain ⟨q0, q1, q2, q3, q4, q5⟩ := B0.t3
        have G0 := B0.g0
        have hz := B0.n
        clear B0
        go_wp2
        exact bodyPost_ret (v := .agg #[.int .i64 0, .int .i64 0, .slice none 0 0]) (by simp [results, Try.results61, go_sem, q0, q1, q2]) rfl ⟨none, 0, rfl, World.ownsRow_nil _ _ _ _, by repeat (first | exact G0 | (refine gb_setNew ?_ (by omega) _ _))⟩
      · have m2' : mv r' c' ys = false := by simpa using m2
        go_enter Try.func61, Try.ntmps61
        go_wp2_with fail
        refine (mvq true _ _ _ xs _ hs m1).mono ?_
        rintro e w1 ⟨rfl, hg⟩
        replace B0 := B0.kept hg
        replace hs' := hs'.kept hg
        clear hg hs
        obtain ⟨p0, p1, p2, p3, p4, p5⟩ := B0.t2
        go_wp2_with fail
        refine (mvq false _ _ _ ys _ hs' m2').mono ?_
        rintro e w2 ⟨rfl, hg⟩
        replace B0 := B0.kept hg
        clear hg p0 p1 p2 p3 p4 p5 hs'
        obtain ⟨q0, q1, q2, q3, q4, q5⟩ := B0.t3
        have G0 := B0.g0
        have hz := B0.n
        clear B0
        go_wp2
        exact bodyPost_ret (v := .agg #[.int .i64 0, .int .i64 0, .slice none 0 0]) (by simp [results, Try.results61, go_sem, q0, q1, q2]) rfl ⟨none, 0, rfl, World.ownsRow_nil _ _ _ _, by repeat (first | exact G0 | (refine gb_setNew ?_ (by omega) _ _))⟩
    · have m1' : mv r c xs = false := by simpa using m1
      go_enter Try.func61, Try.ntmps61
      go_wp2_with fail
      refine (mvq false _ _ _ xs _ hs m1').mono ?_
      rintro e w1 ⟨rfl, hg⟩
      replace B0 := B0.kept hg
      clear hg hs hs'
      obtain ⟨q0, q1, q2, q3, q4, q5⟩ := B0.t3
      have G0 := B0.g0
      have hz := B0.n
      clear B0
      go_wp2
      exact bodyPost_ret (v := .agg #[.int .i64 0, .int .i64 0, .slice none 0 0]) (by simp [results, Try.results61, go_sem, q0, q1, q2]) rfl ⟨none, 0, rfl, World.ownsRow_nil _ _ _ _, by repeat (first | exact G0 | (refine gb_setNew ?_ (by omega) _ _))⟩
theorem addMatrices (r c r' c' : Int) (v v' : Value) (xs ys : List Int) (w : World) (h : Sees w v xs) (h' : Sees w v' ys) :
    Calls Try.prog 22 #[.agg #[.int .i64 r, .int .i64 c, v], .agg #[.int .i64 r', .int .i64 c', v']] w (RetM w (pN (lk r c xs r' c' ys) r) (pN (lk r c xs r' c' ys) c) (pV (lk r c xs r' c' ys) (addL xs ys))) := by
  have B0 := Box3.new w r c r' c' v v' 26
  have hs := h.kept B0.g0
  have hs' := h'.kept B0.g0
  obtain ⟨a, cap, rfl⟩ := h.form
  obtain ⟨a', cap', rfl⟩ := h'.form
  clear h h'
  have C1 := pairAdd r c r' c' _ _ xs ys _ hs hs'
  obtain ⟨q, hq⟩ : ∃ q, q = lk r c xs r' c' ys := ⟨_, rfl⟩
  obtain ⟨l, hl⟩ : ∃ l, l = pV q (addL xs ys) := ⟨_, rfl⟩
  rw [← hq, ← hl] at C1 ⊢
  replace C1 := Lib.hid C1
  clear hs hs' hq hl
  go_enter Try.func22, Try.ntmps22
  go_wp2_with fail
  refine C1.out.mono ?_
  clear C1
  rintro e w1 ⟨a1, cap1, rfl, ho, hg⟩
  replace ho := own_base ho (b' := w.heap.size + 1 + 1 + 1) B0.n
  replace B0 := B0.kept hg
  clear hg
  obtain ⟨q0, q1, q2, q3, q4, q5⟩ := B0.t3
  have G0 := B0.g0
  have hz := B0.n
  clear B0
  go_wp2_with fail
  exact bodyPost_ret (v := .agg #[.int .i64 (pN q r), .int .i64 (pN q c), .slice a1 l.length cap1]) (by simp [results, Try.results22, go_sem, q0, q1, q2]) rfl ⟨_, _, rfl, own_base (b := w.heap.size + 1 + 1 + 1) (by repeat (first | exact ho | (refine ownsRow_setCell_below ?_ (by show w.heap.size + 1 + 1 < w.heap.size + 1 + 1 + 1; omega) _))) (by omega), by repeat (first | exact G0 | (refine gb_setNew ?_ (by omega) _ _))⟩
set_option maxHeartbeats 1600000 in
theorem pairSub (r c r' c' : Int) (v v' : Value) (xs ys : List Int) (w : World) (h : Sees w v xs) (h' : Sees w v' ys) :
    Calls Try.prog 61 #[.agg #[.int .i64 r, .int .i64 c, v], .agg #[.int .i64 r', .int .i64 c', v'], .func (.func 64) #[] #[]] w (RetM w (pN (lk r c xs r' c' ys) r) (pN (lk r c xs r' c' ys) c) (pV (lk r c xs r' c' ys) (subL xs ys))) := by
  have B0 := Box3.new w r c r' c' v v' 26
  have hs := h.kept B0.g0
  have hs' := h'.kept B0.g0
  by_cases hq : lk r c xs r' c' ys = true
  · obtain ⟨m1, m2, rfl, rfl⟩ := lk_iff.1 hq
    rw [hq]
    obtain ⟨R, C, rfl, rfl, r1, r2, c1, c2, hl, h25⟩ := mv_dims m1
    have hl' : ys.length = R * C := by
      have := (mv_iff.1 m2).2.2.1
      exact_mod_cast this
    have hpos : 0 < R * C := Nat.mul_pos (by omega) (by omega)
    obtain ⟨bx, ox, cx, rfl, hcx⟩ := h.at_pos (by omega)
    obtain ⟨bY, oy, cy, rfl, hcy⟩ := h'.at_pos (by omega)
    obtain ⟨N, hN⟩ : ∃ N, N = R * C := ⟨_, rfl⟩
    have hE : Hid (subL xs ys = (List.range N).map fun i => subr (xs.getD i 0) (ys.getD i 0)) := zip_range subr (by omega) (by omega)
    rw [hl, ← hN] at hcx B0 hs hs' ⊢
    rw [hl', ← hN] at hcy B0 hs hs' ⊢
    have e1 : pN true (R : Int) = R := rfl
    have e2 : pN true (C : Int) = C := rfl
    have e3 : pV true (subL xs ys) = subL xs ys := rfl
    rw [e1, e2, e3]
    clear e1 e2 e3 hq
    have HX := Lib.hid hcx
    have HY := Lib.hid hcy
    have hN25 : N ≤ 25 := by omega
    have HN := Lib.hid hN
    clear hcx hcy h h' hl hl' hN
    go_enter Try.func61, Try.ntmps61
    go_wp2_with fail
    refine (mvq true _ _ _ xs _ hs m1).mono ?_
    rintro e w1 ⟨rfl, hg⟩
    replace B0 := B0.kept hg
    replace hs := hs.kept hg
    replace hs' := hs'.kept hg
    clear hg
    obtain ⟨p0, p1, p2, p3, p4, p5⟩ := B0.t2
    go_wp2_with fail
    refine (mvq true _ _ _ ys _ hs' m2).mono ?_
    rintro e w2 ⟨rfl, hg⟩
    replace B0 := B0.kept hg
    replace hs := hs.kept hg
    clear hg p0 p1 p2 p3 p4 p5 hs'
    obtain ⟨p0, p1, p2, p3, p4, p5⟩ := B0.t1
    obtain ⟨q0, q1, q2, q3, q4, q5⟩ := B0.t2
    go_wp2_with fail
    refine (sameSides true _ _ _ _ _ _ _ (by simp)).mono ?_
    rintro e w3 ⟨rfl, hg⟩
    replace B0 := B0.kept hg
    clear hg p0 p1 p2 p3 p4 p5 q0 q1 q2 q3 q4 q5
    obtain ⟨p0, p1, p2, p3, p4, p5⟩ := B0.t1
    go_wp2_with fail
    refine (emptyMatrix R C r2 c2 _).mono ?_
    rintro e w4 ⟨g, rfl, ho, hg⟩
    rw [← HN.out] at ho ⊢
    obtain ⟨hg1, hg2⟩ : w3.heap.size ≤ g ∧ g < w4.heap.size := by
      have := ho.lt g rfl; exact this
    replace ho : w4.ownsRow w3.heap.size 3 1 (.slice (some ⟨g, 0, none⟩) N N) N (ints (part (fun i => subr (xs.getD i 0) (ys.getD i 0)) (fun _ => 0) N (fun k => decide (k < 0)))) := by
      rw [part_none (by intro i _; simp)]; exact ho
    have T3 := Three.new w4 (.int .i64 R) (.int .i64 C) (.slice (some ⟨g, 0, none⟩) N N) 26
    have hn3 := B0.n
    have S0 : PS w w3.heap.size w4.heap.size g N R C R C R C (.slice (some ⟨bx, ox, none⟩) N cx) (.slice (some ⟨bY, oy, none⟩) N cy) (fun i => subr (xs.getD i 0) (ys.getD i 0)) (w4.alloc (.cells #[.int .i64 R, .int .i64 C, .slice (some ⟨g, 0, none⟩) N N] 26)) (fun k => decide (k < 0)) :=
      ⟨ho.alloc _, (B0.kept hg).kept (World.grownBy_alloc _ _ _), T3, by omega, by omega, by have := hg.size; omega⟩
    clear ho T3 hg B0 p0 p1 p2 p3 p4 p5 hs
    have q0 := S0.t4.c0
    have q1 := S0.t4.c1
    have q2 := S0.t4.c2
    have p2 := S0.bx.t1.c2
    go_wp2_with fail
    clear q0 q1 q2 p2
    go_loopw [33] (fun i wr => ∃ k : Nat, k ≤ N ∧ i = .int .i64 k ∧ PS w w3.heap.size w4.heap.size g N R C R C R C (.slice (some ⟨bx, ox, none⟩) N cx) (.slice (some ⟨bY, oy, none⟩) N cy) (fun i => subr (xs.getD i 0) (ys.getD i 0)) wr (fun q => decide (q < k)))
      (fun i _ => N - (intOf i).toNat)
    case atStart => exact ⟨0, Nat.zero_le _, rfl, S0⟩
    case round =>
      obtain ⟨k, hk, rfl, hS⟩ := hrel
      clear S0
      by_cases hlt : k < N
      · have hx0 := hS.bx.g0.cell (HX.out k hlt) (by simp)
        have hy0 := hS.bx.g0.cell (HY.out k hlt) (by simp)
        obtain ⟨x, hx⟩ : ∃ x, x = xs.getD k 0 := ⟨_, rfl⟩
        obtain ⟨y, hy⟩ : ∃ y, y = ys.getD k 0 := ⟨_, rfl⟩
        rw [← hx] at hx0
        rw [← hy] at hy0
        have hini : (k : Int) < (N : Int) := by exact_mod_cast hlt
        have hkb : k < 26 := by omega
        have hk0 : (0 : Int) ≤ (k : Int) := by omega
        have S' := (hS.store k (subr x y) (by rw [hx, hy]) (D' := fun q => decide (q < k + 1)) (by
          intro q _
          rw [Bool.eq_iff_iff]
          simp only [decide_eq_true_eq, Bool.or_eq_true, beq_iff_eq]
          omega)).kept (gb_drew _ none)
        have hy1 := S'.bx.g0.cell (HY.out k hlt) (by simp)
        rw [← hy] at hy1
        have K1 := Lib.hid (And.intro S'.bx.t2.c2 (And.intro S'.t4.c2 hy1))
        clear hy1
        have hold := own_cell hS.own k (by simpa using hlt)
        have hfz := hS.own.frozenAt k
        have q2 := hS.bx.t2.c2
        have p2 := hS.t4.c2
        clear hS hx hy
        go_wp2_with fail
        go_region_held3 (fun w' => w'.cell? ⟨w.heap.size + 1, 2, none⟩ = some (.slice (some ⟨bY, oy, none⟩) N cy) ∧ w'.cell? ⟨w4.heap.size, 2, none⟩ = some (.slice (some ⟨g, 0, none⟩) N N) ∧ w'.cell? ⟨bY, oy + k, none⟩ = some (.int .i64 y)) (first | exact K1.out | go_keep)
          (first | (go_at_call 64; refine (subRing _ _ _).mono ?_; rintro e w' ⟨rfl, rfl⟩))
        go_wp2
        go_roundw
        case rel => exact ⟨k + 1, by omega, by go_num, S'⟩
        case measure => simp [intOf]; omega
      · obtain rfl : k = N := by omega
        have hown := hS.own
        rw [part_all (by intro q hq; simpa using hq)] at hown
        rw [← hE.out] at hown
        obtain ⟨p0, p1, p2, p3, p4, p5⟩ := hS.bx.t3
        have q0 := hS.t4.c0
        have q1 := hS.t4.c1
        have q2 := hS.t4.c2
        have hG := hS.bx.g0
        have e8 : (subL xs ys).length = k := by rw [hE.out]; simp
        clear hS
        go_wp2_with fail
        refine bodyPost_ret (v := .agg #[.int .i64 R, .int .i64 C, .slice (some ⟨g, 0, none⟩) k k]) (by simp [results, Try.results61, go_sem, p0, p1, p2]) rfl ?_
        have e9 : RetM w R C (subL xs ys) = RetM w R C (subL xs ys) := rfl
        refine ⟨some ⟨g, 0, none⟩, k, by rw [e8], ?_, by repeat (first | exact hG | (refine gb_setNew ?_ (by omega) _ _))⟩
        rw [e8]
        exact own_base (b := w3.heap.size) (by repeat (first | exact hown | (refine ownsRow_setCell_below ?_ (by show w.heap.size + 1 + 1 < w3.heap.size; omega) _))) (by omega)
  · have hq' : lk r c xs r' c' ys = false := by simpa using hq
    rw [hq']
    have e1 : pN false r = 0 := rfl
    have e2 : pN false c = 0 := rfl
    have e3 : pV false (subL xs ys) = [] := rfl
    rw [e1, e2, e3]
    obtain ⟨a, cap, rfl⟩ := h.form
    obtain ⟨a', cap', rfl⟩ := h'.form
    clear e1 e2 e3 hq' h h'
    by_cases m1 : mv r c xs = true
    · by_cases m2 : mv r' c' ys = true
      · have hsd : (decide (r = r') && decide (c = c')) = false := by
          cases hd : (decide (r = r') && decide (c = c')) with
          | false => rfl
          | true => exact absurd (lk_iff.2 ⟨m1, m2, by simpa using hd⟩) hq
        go_enter Try.func61, Try.ntmps61
        go_wp2_with fail
        refine (mvq true _ _ _ xs _ hs m1).mono ?_
        rintro e w1 ⟨rfl, hg⟩
        replace B0 := B0.kept hg
        replace hs' := hs'.kept hg
        clear hg hs
        obtain ⟨p0, p1, p2, p3, p4, p5⟩ := B0.t2
        go_wp2_with fail
        refine (mvq true _ _ _ ys _ hs' m2).mono ?_
        rintro e w2 ⟨rfl, hg⟩
        replace B0 := B0.kept hg
        clear hg p0 p1 p2 p3 p4 p5 hs'
        obtain ⟨p0, p1, p2, p3, p4, p5⟩ := B0.t1
        obtain ⟨q0, q1, q2, q3, q4, q5⟩ := B0.t2
        go_wp2_with fail
        refine (sameSides false _ _ _ _ _ _ _ hsd).mono ?_
        rintro e w3 ⟨rfl, hg⟩
        replace B0 := B0.kept hg
        clear hg p0 p1 p2 p3 p4 p5 q0 q1 q2 q3 q4 q5
        obtain ⟨q0, q1, q2, q3, q4, q5⟩ := B0.t3
        have G0 := B0.g0
        have hz := B0.n
        clear B0
        go_wp2
        exact bodyPost_ret (v := .agg #[.int .i64 0, .int .i64 0, .slice none 0 0]) (by simp [results, Try.results61, go_sem, q0, q1, q2]) rfl ⟨none, 0, rfl, World.ownsRow_nil _ _ _ _, by repeat (first | exact G0 | (refine gb_setNew ?_ (by omega) _ _))⟩
      · have m2' : mv r' c' ys = false := by simpa using m2
        go_enter Try.func61, Try.ntmps61
        go_wp2_with fail
        refine (mvq true _ _ _ xs _ hs m1).mono ?_
        rintro e w1 ⟨rfl, hg⟩
        replace B0 := B0.kept hg
        replace hs' := hs'.kept hg
        clear hg hs
        obtain ⟨p0, p1, p2, p3, p4, p5⟩ := B0.t2
        go_wp2_with fail
        refine (mvq false _ _ _ ys _ hs' m2').mono ?_
        rintro e w2 ⟨rfl, hg⟩
        replace B0 := B0.kept hg
        clear hg p0 p1 p2 p3 p4 p5 hs'
        obtain ⟨q0, q1, q2, q3, q4, q5⟩ := B0.t3
        have G0 := B0.g0
        have hz := B0.n
        clear B0
        go_wp2
        exact bodyPost_ret (v := .agg #[.int .i64 0, .int .i64 0, .slice none 0 0]) (by simp [results, Try.results61, go_sem, q0, q1, q2]) rfl ⟨none, 0, rfl, World.ownsRow_nil _ _ _ _, by repeat (first | exact G0 | (refine gb_setNew ?_ (by omega) _ _))⟩
    · have m1' : mv r c xs = false := by simpa using m1
      go_enter Try.func61, Try.ntmps61
      go_wp2_with fail
      refine (mvq false _ _ _ xs _ hs m1').mono ?_
      rintro e w1 ⟨rfl, hg⟩
      replace B0 := B0.kept hg
      clear hg hs hs'
      obtain ⟨q0, q1, q2, q3, q4, q5⟩ := B0.t3
      have G0 := B0.g0
      have hz := B0.n
      clear B0
      go_wp2
      exact bodyPost_ret (v := .agg #[.int .i64 0, .int .i64 0, .slice none 0 0]) (by simp [results, Try.results61, go_sem, q0, q1, q2]) rfl ⟨none, 0, rfl, World.ownsRow_nil _ _ _ _, by repeat (first | exact G0 | (refine gb_setNew ?_ (by omega) _ _))⟩
theorem subMatrices (r c r' c' : Int) (v v' : Value) (xs ys : List Int) (w : World) (h : Sees w v xs) (h' : Sees w v' ys) :
    Calls Try.prog 24 #[.agg #[.int .i64 r, .int .i64 c, v], .agg #[.int .i64 r', .int .i64 c', v']] w (RetM w (pN (lk r c xs r' c' ys) r) (pN (lk r c xs r' c' ys) c) (pV (lk r c xs r' c' ys) (subL xs ys))) := by
  have B0 := Box3.new w r c r' c' v v' 26
  have hs := h.kept B0.g0
  have hs' := h'.kept B0.g0
  obtain ⟨a, cap, rfl⟩ := h.form
  obtain ⟨a', cap', rfl⟩ := h'.form
  clear h h'
  have C1 := pairSub r c r' c' _ _ xs ys _ hs hs'
  obtain ⟨q, hq⟩ : ∃ q, q = lk r c xs r' c' ys := ⟨_, rfl⟩
  obtain ⟨l, hl⟩ : ∃ l, l = pV q (subL xs ys) := ⟨_, rfl⟩
  rw [← hq, ← hl] at C1 ⊢
  replace C1 := Lib.hid C1
  clear hs hs' hq hl
  go_enter Try.func24, Try.ntmps24
  go_wp2_with fail
  refine C1.out.mono ?_
  clear C1
  rintro e w1 ⟨a1, cap1, rfl, ho, hg⟩
  replace ho := own_base ho (b' := w.heap.size + 1 + 1 + 1) B0.n
  replace B0 := B0.kept hg
  clear hg
  obtain ⟨q0, q1, q2, q3, q4, q5⟩ := B0.t3
  have G0 := B0.g0
  have hz := B0.n
  clear B0
  go_wp2_with fail
  exact bodyPost_ret (v := .agg #[.int .i64 (pN q r), .int .i64 (pN q c), .slice a1 l.length cap1]) (by simp [results, Try.results24, go_sem, q0, q1, q2]) rfl ⟨_, _, rfl, own_base (b := w.heap.size + 1 + 1 + 1) (by repeat (first | exact ho | (refine ownsRow_setCell_below ?_ (by show w.heap.size + 1 + 1 < w.heap.size + 1 + 1 + 1; omega) _))) (by omega), by repeat (first | exact G0 | (refine gb_setNew ?_ (by omega) _ _))⟩
end Go.Proofs.Ytfnajbifdilfmaa
