/- The contract of the program's MulMatrices: it returns the product in new memory, the zero value where the matrices do not fit. Conditions: none. -/
import Derived.Test.YtfnajbifdilfmaaPair
namespace Go.Proofs.Ytfnajbifdilfmaa
open Go Go.RowKit

/-- Both matrices are valid and fit for a product. -/
def mk (r c : Int) (xs : List Int) (r' c' : Int) (ys : List Int) : Bool := mv r c xs && mv r' c' ys && decide (c = r')
theorem mk_iff {r c r' c' : Int} {xs ys : List Int} : mk r c xs r' c' ys = true ↔ mv r c xs = true ∧ mv r' c' ys = true ∧ c = r' := by
  simp [mk, and_assoc]
/-- The product's numbers. -/
def mulV (r c : Int) (xs : List Int) (c' : Int) (ys : List Int) : List Int := mulL xs ys r.toNat c.toNat c'.toNat
theorem mulV_nat (R K C : Nat) (xs ys : List Int) : mulV R K xs C ys = mulL xs ys R K C := by simp [mulV]
theorem mulV_len (r c : Int) (xs : List Int) (r' c' : Int) (ys : List Int) : (pV (mk r c xs r' c' ys) (mulV r c xs c' ys)).length ≤ 25 := by
  cases hq : mk r c xs r' c' ys with
  | false => simp [pV]
  | true =>
    obtain ⟨m1, m2, rfl⟩ := mk_iff.1 hq
    obtain ⟨R, K, rfl, rfl, r1, r2, _⟩ := mv_dims m1
    obtain ⟨K', C, _, rfl, _, _, c1, c2, _⟩ := mv_dims m2
    have hm : R * C ≤ 5 * 5 := Nat.mul_le_mul r2 c2
    simp [pV, mulV, mulL_len]; omega
theorem getD_rv {xs : List Int} (h : ∀ x ∈ xs, rv x = true) (i : Nat) : 0 ≤ xs.getD i 0 ∧ xs.getD i 0 ≤ 4095 := by
  rcases Nat.lt_or_ge i xs.length with hi | hi
  · have := rv_iff.1 (h (xs[i]) (List.getElem_mem hi))
    simp [List.getD_eq_getElem?_getD, hi]; omega
  · simp [List.getD_eq_getElem?_getD, hi]
theorem mulS_bd {xs ys : List Int} (hx : ∀ x ∈ xs, rv x = true) (hy : ∀ y ∈ ys, rv y = true) (K C r c k : Nat) (hk : k ≤ 5) : 0 ≤ mulS xs ys K C r c k ∧ mulS xs ys K C r c k ≤ 83845125 := by
  have h := sumTo_bd (f := fun k => xs.getD (r * K + k) 0 * ys.getD (k * C + c) 0) (M := 4095 * 4095) (n := k) (fun j _ => sq_bd (getD_rv hx _).1 (getD_rv hx _).2 (getD_rv hy _).1 (getD_rv hy _).2)
  have hm : (k : Int) * (4095 * 4095) ≤ 5 * (4095 * 4095) := Int.mul_le_mul_of_nonneg_right (by omega) (by decide)
  unfold mulS
  omega
theorem mulE_at {xs ys : List Int} {K C r c : Nat} (h : c < C) : mulE xs ys K C (r * C + c) = mulS xs ys K C r c K % 4096 := by
  unfold mulE; rw [mod_of _ _ _ h, div_of _ _ _ h]
theorem valueAt (R C i j : Nat) (r : Int) (v : Value) (xs : List Int) (w : World) (h : Sees w v xs) (hl : xs.length = R * C) (hR : R ≤ 5) (hC : C ≤ 5) (hi : i < R) (hj : j < C) :
    Calls Try.prog 54 #[.agg #[.int .i64 r, .int .i64 C, v], .int .i64 i, .int .i64 j] w fun e w' => e = .returned (.int .i64 (xs.getD (i * C + j) 0)) ∧ w.grownBy w' none := by
  have hin : i * C + j < xs.length := by rw [hl]; exact lt_of _ _ _ _ hi hj
  obtain ⟨blk, off, cap, rfl, hcell⟩ := h.at_pos (by omega)
  have G0 : w.grownBy (w.alloc (.cells #[.int .i64 r, .int .i64 C, .slice (some ⟨blk, off, none⟩) xs.length cap] 26)) none := World.grownBy_alloc _ _ _
  have hx0 := G0.cell (hcell _ hin) (by simp)
  have hini : (i : Int) * (C : Int) + (j : Int) < (xs.length : Int) := by exact_mod_cast hin
  have hi0 : (0 : Int) ≤ (i : Int) * (C : Int) := Int.mul_nonneg (by omega) (by omega)
  have hi1 : (i : Int) * (C : Int) ≤ 25 := by
    have : i * C ≤ 5 * 5 := Nat.mul_le_mul (by omega) hC
    exact_mod_cast this
  have ew1 : IntKind.i64.wrap ((i : Int) * (C : Int)) = (i : Int) * (C : Int) := by rw [IntKind.wrap_i64]; omega
  have ew2 : IntKind.i64.wrap ((i : Int) * (C : Int) + (j : Int)) = (i : Int) * (C : Int) + (j : Int) := by rw [IntKind.wrap_i64]; omega
  have hi2 : (0 : Int) ≤ (i : Int) * (C : Int) + (j : Int) := by omega
  have et : ((i : Int) * (C : Int) + (j : Int)).toNat = i * C + j := by
    have : (i : Int) * (C : Int) + (j : Int) = ((i * C + j : Nat) : Int) := by simp
    rw [this, Int.toNat_natCast]
  clear h hcell hl hin
  go_enter Try.func54, Try.ntmps54
  go_wp2
  go_ret
  exact ⟨rfl, G0⟩
set_option maxHeartbeats 3200000 in
theorem mulMatrices (r c r' c' : Int) (v v' : Value) (xs ys : List Int) (w : World) (h : Sees w v xs) (h' : Sees w v' ys) :
    Calls Try.prog 17 #[.agg #[.int .i64 r, .int .i64 c, v], .agg #[.int .i64 r', .int .i64 c', v']] w (RetM w (pN (mk r c xs r' c' ys) r) (pN (mk r c xs r' c' ys) c') (pV (mk r c xs r' c' ys) (mulV r c xs c' ys))) := by
  have B0 := Box3.new w r c r' c' v v' 26
  have hs := h.kept B0.g0
  have hs' := h'.kept B0.g0
  obtain ⟨a, cap, rfl⟩ := h.form
  obtain ⟨a', cap', rfl⟩ := h'.form
  by_cases hq : mk r c xs r' c' ys = true
  · obtain ⟨m1, m2, rfl⟩ := mk_iff.1 hq
    rw [hq]
    obtain ⟨R, K, rfl, rfl, r1, r2, k1, k2, hl, h25⟩ := mv_dims m1
    obtain ⟨K', C, hK, rfl, _, _, c1, c2, hl', h25'⟩ := mv_dims m2
    obtain rfl : K = K' := by omega
    clear hK
    have hm : R * C ≤ 5 * 5 := Nat.mul_le_mul r2 c2
    obtain ⟨N, hN⟩ : ∃ N, N = R * C := ⟨_, rfl⟩
    have hN25 : N ≤ 25 := by omega
    have HN := Lib.hid hN
    have hE : Hid (mulV R K xs C ys = (List.range N).map (mulE xs ys K C)) := by unfold Hid; rw [mulV_nat, hN]; rfl
    have e1 : pN true (R : Int) = R := rfl
    have e2 : pN true (C : Int) = C := rfl
    have e3 : pV true (mulV R K xs C ys) = mulV R K xs C ys := rfl
    rw [e1, e2, e3]
    have HL := Lib.hid hl
    have HL' := Lib.hid hl'
    have H0 := Lib.hid h
    have H0' := Lib.hid h'
    have HB := Lib.hid (mulS_bd (mv_iff.1 m1).2.2.2 (mv_iff.1 m2).2.2.2 K C)
    have HX := Lib.hid (getD_rv (mv_iff.1 m1).2.2.2)
    have HY := Lib.hid (getD_rv (mv_iff.1 m2).2.2.2)
    have hne : ((K : Int) != (K : Int)) = false := by simp
    clear e1 e2 e3 hq hl hl' hN h25 h25' hm h h'
    go_enter Try.func17, Try.ntmps17
    go_wp2_with fail
    refine (mvq true _ _ _ xs _ hs m1).mono ?_
    rintro e w1 ⟨rfl, hg⟩
    replace B0 := B0.kept hg
    replace hs' := hs'.kept hg
    clear hg hs
    obtain ⟨p0, p1, p2, p3, p4, p5⟩ := B0.t2
    go_wp2_with fail
    refine (mvq true _ _ _ ys _ hs' m2).mono ?_
    rintro e w2 ⟨rfl, hg⟩
    replace B0 := B0.kept hg
    clear hg p0 p1 p2 p3 p4 p5 hs'
    have p0 := B0.t1.c0
    have p1 := B0.t1.c1
    have q0 := B0.t2.c0
    have q1 := B0.t2.c1
    go_wp2_with fail
    refine (emptyMatrix R C r2 c2 _).mono ?_
    rintro e w4 ⟨g, rfl, ho, hg⟩
    rw [← HN.out] at ho ⊢
    obtain ⟨hg1, hg2⟩ : w2.heap.size ≤ g ∧ g < w4.heap.size := by
      have := ho.lt g rfl; exact this
    replace ho : w4.ownsRow w2.heap.size 3 1 (.slice (some ⟨g, 0, none⟩) N N) N (ints (part (mulE xs ys K C) (fun _ => 0) N (fun k => decide (k < 0 * C)))) := by
      rw [part_none (by intro i _; simp)]; exact ho
    have T3 := Three.new w4 (.int .i64 R) (.int .i64 C) (.slice (some ⟨g, 0, none⟩) N N) 26
    have hn3 := B0.n
    have S0 : PS w w2.heap.size w4.heap.size g N R K K C R C (.slice a xs.length cap) (.slice a' ys.length cap') (mulE xs ys K C) (w4.alloc (.cells #[.int .i64 R, .int .i64 C, .slice (some ⟨g, 0, none⟩) N N] 26)) (fun k => decide (k < 0 * C)) :=
      ⟨ho.alloc _, (B0.kept hg).kept (World.grownBy_alloc _ _ _), T3, by omega, by omega, by have := hg.size; omega⟩
    clear ho T3 hg B0 p0 p1 q0 q1
    have q0 := S0.t4.c0
    have q1 := S0.t4.c1
    have q2 := S0.t4.c2
    have p0 := S0.bx.t1.c0
    go_wp2_with fail
    clear q0 q1 q2 p0
    go_loopw [35] (fun i wr => ∃ k : Nat, k ≤ R ∧ i = .int .i64 k ∧ PS w w2.heap.size w4.heap.size g N R K K C R C (.slice a xs.length cap) (.slice a' ys.length cap') (mulE xs ys K C) wr (fun q => decide (q < k * C)))
      (fun i _ => R - (intOf i).toNat)
    case atStart => exact ⟨0, Nat.zero_le _, rfl, S0⟩
    case round =>
      obtain ⟨i, hi, rfl, hS⟩ := hrel
      clear S0
      by_cases hlt : i < R
      · have p0 := hS.bx.t1.c0
        have p1 := hS.bx.t1.c1
        have p2 := hS.bx.t1.c2
        go_wp2_with fail
        refine (rowOf R K i _ _ xs w _ H0.out HL.out ⟨k1, k2⟩ r2 hlt).mono ?_
        rintro e w5 ⟨blk, off, capr, rfl, hrow, hg⟩
        replace hS := hS.kept hg
        clear hg p0 p1 p2
        have HR := Lib.hid hrow
        clear hrow
        have q1 := hS.bx.t2.c1
        go_wp2_with fail
        clear q1
        go_loopw [43] (fun i' wr => ∃ j : Nat, j ≤ C ∧ i' = .int .i64 j ∧ PS w w2.heap.size w4.heap.size g N R K K C R C (.slice a xs.length cap) (.slice a' ys.length cap') (mulE xs ys K C) wr (fun q => decide (q < i * C + j)))
          (fun i' _ => C - (intOf i').toNat)
        case atStart => exact ⟨0, Nat.zero_le _, rfl, hS⟩
        case round =>
          obtain ⟨j, hj, rfl, hS5⟩ := hrel
          clear hS
          by_cases hjl : j < C
          · go_wp2_with fail
            go_loopw [48, 9] (fun i' s wr => ∃ k : Nat, k ≤ K ∧ i' = .int .i64 k ∧ s = .int .i64 (mulS xs ys K C i j k) ∧ PS w w2.heap.size w4.heap.size g N R K K C R C (.slice a xs.length cap) (.slice a' ys.length cap') (mulE xs ys K C) wr (fun q => decide (q < i * C + j)))
              (fun i' _ _ => K - (intOf i').toNat)
            case atStart => exact ⟨0, Nat.zero_le _, rfl, rfl, hS5⟩
            case round =>
              obtain ⟨k, hk, rfl, rfl, hS6⟩ := hrel
              clear hS5
              by_cases hkl : k < K
              · have hx0 := hS6.bx.g0.cell (HR.out k hkl) (by simp)
                have hp := sq_bd (HX.out (i * K + k)).1 (HX.out (i * K + k)).2 (HY.out (k * C + j)).1 (HY.out (k * C + j)).2
                have hb := HB.out i j k (by omega)
                obtain ⟨s, hs⟩ : ∃ s, s = mulS xs ys K C i j k := ⟨_, rfl⟩
                obtain ⟨x, hx⟩ : ∃ x, x = xs.getD (i * K + k) 0 := ⟨_, rfl⟩
                obtain ⟨y, hy⟩ : ∃ y, y = ys.getD (k * C + j) 0 := ⟨_, rfl⟩
                have hsum : Hid (mulS xs ys K C i j (k + 1) = s + x * y) := by unfold Hid; rw [hs, hx, hy]; rfl
                rw [← hx] at hx0
                rw [← hx, ← hy] at hp
                rw [← hs] at hb ⊢
                have ew1 : IntKind.i64.wrap (x * y) = x * y := by rw [IntKind.wrap_i64]; omega
                have ew2 : IntKind.i64.wrap (s + x * y) = s + x * y := by rw [IntKind.wrap_i64]; omega
                have q0 := hS6.bx.t2.c0
                have q1 := hS6.bx.t2.c1
                have q2 := hS6.bx.t2.c2
                have C7 := valueAt K C k j K _ ys wr (H0'.out.kept hS6.bx.g0) HL'.out k2 c2 hkl hjl
                rw [← hy] at C7
                have D7 := Lib.hid C7
                have hkK : (k : Int) < (K : Int) := by exact_mod_cast hkl
                clear C7 hx hy hs hp hb
                go_wp2_with fail
                refine D7.out.mono ?_
                rintro e w7 ⟨rfl, hg⟩
                replace hS6 := hS6.kept hg
                clear hg D7 q0 q1 q2 hx0
                go_wp2_with fail
                go_roundw
                case rel => exact ⟨k + 1, by omega, by go_num, by rw [hsum.out], hS6⟩
                case measure => simp [intOf]; omega
              · obtain rfl : k = K := by omega
                have hin : i * C + j < N := by rw [HN.out]; exact lt_of _ _ _ _ hlt hjl
                have hini : (i : Int) * (C : Int) + (j : Int) < (N : Int) := by exact_mod_cast hin
                have hi0 : (0 : Int) ≤ (i : Int) * (C : Int) := Int.mul_nonneg (by omega) (by omega)
                have hi1 : (i : Int) * (C : Int) ≤ 25 := by
                  have : i * C ≤ 5 * 5 := Nat.mul_le_mul (by omega) c2
                  exact_mod_cast this
                have ew1 : IntKind.i64.wrap ((i : Int) * (C : Int)) = (i : Int) * (C : Int) := by rw [IntKind.wrap_i64]; omega
                have ew2 : IntKind.i64.wrap ((i : Int) * (C : Int) + (j : Int)) = (i : Int) * (C : Int) + (j : Int) := by rw [IntKind.wrap_i64]; omega
                have hi2 : (0 : Int) ≤ (i : Int) * (C : Int) + (j : Int) := by omega
                have et : ((i : Int) * (C : Int) + (j : Int)).toNat = i * C + j := by
                  have : (i : Int) * (C : Int) + (j : Int) = ((i * C + j : Nat) : Int) := by simp
                  rw [this, Int.toNat_natCast]
                obtain ⟨s, hs⟩ : ∃ s, s = mulS xs ys k C i j k := ⟨_, rfl⟩
                rw [← hs]
                have S' := (hS6.store (i * C + j) (s % 4096) (by rw [mulE_at hjl, hs]) (D' := fun q => decide (q < i * C + (j + 1))) (by
                  intro q _
                  rw [Bool.eq_iff_iff]
                  simp only [decide_eq_true_eq, Bool.or_eq_true, beq_iff_eq]
                  omega)).kept (gb_drew _ none)
                have K1 := Lib.hid (And.intro S'.bx.t2.c1 S'.t4.c2)
                have hold := own_cell hS6.own (i * C + j) (by simpa using hin)
                have hfz := hS6.own.frozenAt (i * C + j)
                have q1 := hS6.bx.t2.c1
                have p2 := hS6.t4.c2
                clear hS6 hs
                go_wp2_with fail
                go_region_held3 (fun w' => w'.cell? ⟨w.heap.size + 1, 1, none⟩ = some (.int .i64 C) ∧ w'.cell? ⟨w4.heap.size, 2, none⟩ = some (.slice (some ⟨g, 0, none⟩) N N)) (first | exact K1.out | go_keep)
                  (first | (go_at_call 55; refine (ringOf _ _).mono ?_; rintro e w' ⟨rfl, rfl⟩))
                go_wp2
                go_roundw
                case rel => exact ⟨j + 1, by omega, by go_num, S'⟩
                case measure => simp [intOf]; omega
          · obtain rfl : j = C := by omega
            go_wp2_with fail
            go_roundw
            case rel => exact ⟨i + 1, by omega, by go_num, by rw [Nat.add_mul, Nat.one_mul]; exact hS5⟩
            case measure => simp [intOf]; omega
      · obtain rfl : i = R := by omega
        have hown := hS.own
        rw [part_all (by intro q hq; rw [HN.out] at hq; simpa using hq)] at hown
        rw [← hE.out] at hown
        obtain ⟨p0, p1, p2, p3, p4, p5⟩ := hS.bx.t3
        have q0 := hS.t4.c0
        have q1 := hS.t4.c1
        have q2 := hS.t4.c2
        have hG := hS.bx.g0
        have e8 : (mulV i K xs C ys).length = N := by rw [hE.out]; simp
        clear hS
        go_wp2_with fail
        refine bodyPost_ret (v := .agg #[.int .i64 i, .int .i64 C, .slice (some ⟨g, 0, none⟩) N N]) (by simp [results, Try.results17, go_sem, p0, p1, p2]) rfl ?_
        refine ⟨some ⟨g, 0, none⟩, N, by rw [e8], ?_, by repeat (first | exact hG | (refine gb_setNew ?_ (by omega) _ _))⟩
        rw [e8]
        exact own_base (b := w2.heap.size) (by repeat (first | exact hown | (refine ownsRow_setCell_below ?_ (by show w.heap.size + 1 + 1 < w2.heap.size; omega) _))) (by omega)
  · have hq' : mk r c xs r' c' ys = false := by simpa using hq
    rw [hq']
    have e1 : pN false r = 0 := rfl
    have e2 : pN false c' = 0 := rfl
    have e3 : pV false (mulV r c xs c' ys) = [] := rfl
    rw [e1, e2, e3]
    clear e1 e2 e3 hq' h h'
    by_cases m1 : mv r c xs = true
    · by_cases m2 : mv r' c' ys = true
      · have hne : (c != r') = true := by
          cases hd : decide (c = r') with
          | false => simpa using hd
          | true => exact absurd (mk_iff.2 ⟨m1, m2, by simpa using hd⟩) hq
        go_enter Try.func17, Try.ntmps17
        go_wp2_with fail
        refine (mvq true _ _ _ xs _ hs m1).mono ?_
        rintro e w1 ⟨rfl, hg⟩
        replace B0 := B0.kept hg
        replace hs' := hs'.kept hg
        clear hg hs
        obtain ⟨p0, p1, p2, p3, p4, p5⟩ := B0.t2
        go_wp2_with fail
        refine (mvq true _ _ _ ys _ hs' m2).mono ?_
        rintro e w2 ⟨rfl, hg⟩
        replace B0 := B0.kept hg
        clear hg p0 p1 p2 p3 p4 p5 hs'
        have p1 := B0.t1.c1
        have p0 := B0.t2.c0
        obtain ⟨q0, q1, q2, q3, q4, q5⟩ := B0.t3
        have G0 := B0.g0
        have hz := B0.n
        clear B0
        go_wp2
        exact bodyPost_ret (v := .agg #[.int .i64 0, .int .i64 0, .slice none 0 0]) (by simp [results, Try.results17, go_sem, q0, q1, q2]) rfl ⟨none, 0, rfl, World.ownsRow_nil _ _ _ _, by repeat (first | exact G0 | (refine gb_setNew ?_ (by omega) _ _))⟩
      · have m2' : mv r' c' ys = false := by simpa using m2
        go_enter Try.func17, Try.ntmps17
        go_wp2_with fail
        refine (mvq true _ _ _ xs _ hs m1).mono ?_
        rintro e w1 ⟨rfl, hg⟩
        replace B0 := B0.kept hg
        replace hs' := hs'.kept hg
        clear hg hs
        obtain ⟨p0, p1, p2, p3, p4, p5⟩ := B0.t2
        go_wp2_with fail
        refine (mvq false _ _ _ ys _ hs' m2').mono ?_
        rintro e w2 ⟨rfl, hg⟩
        replace B0 := B0.kept hg
        clear hg p0 p1 p2 p3 p4 p5 hs'
        obtain ⟨q0, q1, q2, q3, q4, q5⟩ := B0.t3
        have G0 := B0.g0
        have hz := B0.n
        clear B0
        go_wp2
        exact bodyPost_ret (v := .agg #[.int .i64 0, .int .i64 0, .slice none 0 0]) (by simp [results, Try.results17, go_sem, q0, q1, q2]) rfl ⟨none, 0, rfl, World.ownsRow_nil _ _ _ _, by repeat (first | exact G0 | (refine gb_setNew ?_ (by omega) _ _))⟩
    · have m1' : mv r c xs = false := by simpa using m1
      go_enter Try.func17, Try.ntmps17
      go_wp2_with fail
      refine (mvq false _ _ _ xs _ hs m1').mono ?_
      rintro e w1 ⟨rfl, hg⟩
      replace B0 := B0.kept hg
      clear hg hs hs'
      obtain ⟨q0, q1, q2, q3, q4, q5⟩ := B0.t3
      have G0 := B0.g0
      have hz := B0.n
      clear B0
      go_wp2
      exact bodyPost_ret (v := .agg #[.int .i64 0, .int .i64 0, .slice none 0 0]) (by simp [results, Try.results17, go_sem, q0, q1, q2]) rfl ⟨none, 0, rfl, World.ownsRow_nil _ _ _ _, by repeat (first | exact G0 | (refine gb_setNew ?_ (by omega) _ _))⟩
end Go.Proofs.Ytfnajbifdilfmaa
