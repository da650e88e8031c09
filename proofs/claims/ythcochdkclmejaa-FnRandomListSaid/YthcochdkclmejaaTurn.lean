/- The contracts of TurnMatrix, of the program and of the reference, and of what they call: each returns the turned matrix in new memory, the zero value for an invalid matrix, and turns nothing that was there. Conditions: none. -/
import Derived.Test.YthcochdkclmejaaMatB
import Derived.Deep.RegionLaw
import Derived.Deep.RegionHeld3
import Derived.Deep.AppendLies
namespace Go.Proofs.Ythcochdkclmejaa
open Go Go.RowKit

/-- A matrix of new memory is returned. -/
def RetM (w : World) (r c : Int) (ys : List Int) (e : Ending) (w' : World) : Prop :=
  ∃ (a : Option Addr) (cap : Nat), e = .returned (.agg #[.int .i64 r, .int .i64 c, .slice a ys.length cap]) ∧ w'.ownsRow w.heap.size 3 1 (.slice a ys.length cap) ys.length (ints ys) ∧ w.grownBy w' none

/-- The turned matrix: its rows, columns and numbers. -/
def tR (r c : Int) (xs : List Int) : Int := if mv r c xs then c else 0
def tC (r c : Int) (xs : List Int) : Int := if mv r c xs then r else 0
def tV (r c : Int) (xs : List Int) : List Int := if mv r c xs then turnL xs r.toNat c.toNat else []
theorem mv_dims {r c : Int} {xs : List Int} (h : mv r c xs = true) : ∃ R C : Nat, r = R ∧ c = C ∧ 1 ≤ R ∧ R ≤ 5 ∧ 1 ≤ C ∧ C ≤ 5 ∧ xs.length = R * C ∧ R * C ≤ 25 := by
  obtain ⟨hr, hc, hl, _⟩ := mv_iff.1 h
  have h1 := sd_iff.1 hr
  have h2 := sd_iff.1 hc
  obtain ⟨R, rfl⟩ := Int.eq_ofNat_of_zero_le (show 0 ≤ r by omega)
  obtain ⟨C, rfl⟩ := Int.eq_ofNat_of_zero_le (show 0 ≤ c by omega)
  have hm : R * C ≤ 5 * 5 := Nat.mul_le_mul (by omega) (by omega)
  exact ⟨R, C, rfl, rfl, by omega, by omega, by omega, by omega, by exact_mod_cast hl, hm⟩
theorem tV_len (r c : Int) (xs : List Int) : (tV r c xs).length ≤ 25 := by
  unfold tV
  split
  · obtain ⟨R, C, rfl, rfl, _, _, _, _, _, h⟩ := mv_dims ‹_›
    simpa [turnL] using h
  · simp
/-- A row of a matrix. -/
def rowL (xs : List Int) (C i : Nat) : List Int := (List.range C).map fun j : Nat => xs.getD (i * C + j) 0
theorem rowL_len (xs : List Int) (C i : Nat) : (rowL xs C i).length = C := by simp [rowL]
theorem rowL_at {xs : List Int} {C i j : Nat} (h : j < C) : (rowL xs C i).getD j 0 = xs.getD (i * C + j) 0 := getD_range h
theorem idx_eq {i c R k : Nat} (h : i < R) : k = c * R + i ↔ k / R = c ∧ k % R = i := by
  constructor
  · rintro rfl; exact ⟨div_of _ _ _ h, mod_of _ _ _ h⟩
  · rintro ⟨rfl, rfl⟩; rw [Nat.mul_comm, Nat.div_add_mod]

theorem emptyMatrix (R C : Nat) (hR : R ≤ 5) (hC : C ≤ 5) (w : World) :
    Calls Try.prog 74 #[.int .i64 R, .int .i64 C] w fun e w' => ∃ g, e = .returned (.agg #[.int .i64 R, .int .i64 C, .slice (some ⟨g, 0, none⟩) (R * C) (R * C)]) ∧
      w'.ownsRow w.heap.size 3 1 (.slice (some ⟨g, 0, none⟩) (R * C) (R * C)) (R * C) (ints ((List.range (R * C)).map fun _ => (0 : Int))) ∧ w.grownBy w' none := by
  obtain ⟨i0, hi, hz0, hz1, hz2⟩ := info_parts info_int
  have hm : R * C ≤ 5 * 5 := Nat.mul_le_mul hR hC
  have rc := sq_bd (a := (R : Int)) (b := (C : Int)) (M := 5) (by omega) (by omega) (by omega) (by omega)
  have T4 := Three.new w (.int .i64 0) (.int .i64 0) (.slice none 0 0) 39
  go_enter Try.func74, Try.ntmps74
  go_wp2_with (at_make; refine wpList_make_full _ rfl _ _ 34 rfl (w.heap.size + 1) 3 i0 (.int .i64 0) 1 Try.underlying34 hi hz0 hz1 _ _ _ _ (R * C) rfl rfl ?hL ?hC ?b2 ?b3 ?b4 ?_)
  case hL => simp
  case hC => simp
  case b2 => rw [hz2]; omega
  case b3 => unfold maxLen; omega
  case b4 => simp
  intro w1 hown1 hg1
  replace T4 := T4.kept hg1 (by simp)
  have z1 : w.heap.size < w1.heap.size := T4.lt
  have G1 := gbt (World.grownBy_alloc w (.cells #[.int .i64 0, .int .i64 0, .slice none 0 0] 39) none) hg1
  obtain ⟨p0, p1, p2, p3, p4, p5⟩ := T4
  clear hg1
  go_wp2
  rw [made_zero] at hown1
  exact bodyPost_ret (v := .agg #[.int .i64 R, .int .i64 C, .slice (some ⟨w.heap.size + 1, 0, none⟩) (R * C) (R * C)]) (by simp [results, Try.results74, go_sem, p0, p1, p2]) rfl ⟨_, rfl,
    own_base (b := w.heap.size + 1) (by repeat (first | exact hown1 | (refine ownsRow_setCell_below ?_ (by simp) _))) (by omega), by repeat (first | exact G1 | (refine gb_setNew ?_ (by omega) _ _))⟩
theorem rowOf (R C i : Nat) (r : Int) (v : Value) (xs : List Int) (w0 w : World) (h : Sees w0 v xs) (hl : xs.length = R * C) (hC : 1 ≤ C ∧ C ≤ 5) (hR : R ≤ 5) (hi : i < R) :
    Calls Try.prog 75 #[.agg #[.int .i64 r, .int .i64 C, v], .int .i64 i] w fun e w' => ∃ blk off cap' : Nat, e = .returned (.slice (some ⟨blk, off, none⟩) C cap') ∧ (∀ j, j < C → w0.cell? ⟨blk, off + j, none⟩ = some (.int .i64 (xs.getD (i * C + j) 0))) ∧ w.grownBy w' none := by
  obtain ⟨c1, c2⟩ := hC
  obtain ⟨a, cap, rfl, ⟨hlc, _⟩, hm, hc⟩ := h
  have hlt : i * C + C ≤ R * C := by
    have : (i + 1) * C ≤ R * C := Nat.mul_le_mul_right C hi
    rw [Nat.add_mul] at this; omega
  have hpos : 0 < xs.length := by omega
  obtain ⟨blk, off, rfl, hcell⟩ := hc (by intro e; rw [e] at hpos; simp at hpos)
  have hm1 : i * C ≤ 5 * 5 := Nat.mul_le_mul (by omega) c2
  have b1 : (0 : Int) ≤ (i : Int) * (C : Int) := Int.mul_nonneg (by omega) (by omega)
  have b2 : (i : Int) * (C : Int) ≤ 25 := by exact_mod_cast hm1
  have b3 : ((i : Int) + 1) * (C : Int) = (i : Int) * (C : Int) + (C : Int) := by rw [Int.add_mul, Int.one_mul]
  have HB := Lib.hid b3
  have b4 : ((i : Int) + 1) * (C : Int) ≤ 30 := by omega
  have b5 : (i : Int) * (C : Int) ≤ ((i : Int) + 1) * (C : Int) := by omega
  have b6 : ((i : Int) + 1) * (C : Int) ≤ (cap : Int) := by
    have : ((i * C + C : Nat) : Int) ≤ cap := by omega
    rw [b3]; exact_mod_cast this
  clear b3
  have b7 : (0 : Int) ≤ ((i : Int) + 1) * (C : Int) := by omega
  go_enter Try.func75, Try.ntmps75
  go_wp2
  go_ret
  refine ⟨blk, off + i * C, cap - i * C, ?_, fun j hj => ?_, World.grownBy_alloc _ _ _⟩
  · have e : (i + 1) * C - i * C = C := by rw [Nat.add_mul, Nat.one_mul, Nat.add_sub_cancel_left]
    rw [e]; rfl
  · have h0 := hcell (i * C + j) (by omega)
    rw [← Nat.add_assoc] at h0
    exact h0
/-- The state of the turned matrix: the numbers at the places in D stand. -/
structure TS (w : World) (b0 B3 g R C : Nat) (a : Option Addr) (n cap : Nat) (xs : List Int) (wr : World) (D : Nat → Bool) : Prop where
  own : wr.ownsRow b0 3 1 (.slice (some ⟨g, 0, none⟩) (C * R) (C * R)) (C * R) (ints (part (turnE xs R C) (fun _ => 0) (C * R) D))
  t1 : Three wr w.heap.size (.int .i64 R) (.int .i64 C) (.slice a n cap)
  t2 : Three wr (w.heap.size + 1) (.int .i64 0) (.int .i64 0) (.slice none 0 0)
  t3 : Three wr B3 (.int .i64 C) (.int .i64 R) (.slice (some ⟨g, 0, none⟩) (C * R) (C * R))
  g0 : w.grownBy wr none
  n1 : w.heap.size + 2 ≤ g
  n2 : g ≠ B3
  n3 : w.heap.size + 2 ≤ B3
theorem TS.kept {w : World} {b0 B3 g R C : Nat} {a : Option Addr} {n cap : Nat} {xs : List Int} {wr w' : World} {D : Nat → Bool} (h : TS w b0 B3 g R C a n cap xs wr D) (hg : wr.grownBy w' none) : TS w b0 B3 g R C a n cap xs w' D :=
  ⟨own_kept h.own hg, h.t1.kept hg (by simp), h.t2.kept hg (by simp), h.t3.kept hg (by simp), gbt h.g0 hg, h.n1, h.n2, h.n3⟩
theorem TS.congr {w : World} {b0 B3 g R C : Nat} {a : Option Addr} {n cap : Nat} {xs : List Int} {wr : World} {D D' : Nat → Bool} (h : TS w b0 B3 g R C a n cap xs wr D) (e : ∀ i, i < C * R → D i = D' i) : TS w b0 B3 g R C a n cap xs wr D' :=
  ⟨by rw [← part_congr e]; exact h.own, h.t1, h.t2, h.t3, h.g0, h.n1, h.n2, h.n3⟩
theorem TS.store {w : World} {b0 B3 g R C : Nat} {a : Option Addr} {n cap : Nat} {xs : List Int} {wr : World} {D D' : Nat → Bool} (h : TS w b0 B3 g R C a n cap xs wr D) (j : Nat) (x : Int) (hx : x = turnE xs R C j) (hD : ∀ i, i < C * R → D' i = (D i || i == j)) :
    TS w b0 B3 g R C a n cap xs (wr.setCell ⟨g, j, none⟩ (.int .i64 x)) D' := by
  subst hx
  obtain ⟨s1, s2⟩ := own_stored h.own j (turnE xs R C j)
  rw [part_set (D' := D') hD] at s1
  have n1 := h.n1
  have n2 := h.n2
  exact ⟨s1, h.t1.kept s2 (by simp; omega), h.t2.kept s2 (by simp; omega), h.t3.kept s2 (by simp; omega), gb_setNew h.g0 (by omega) _ _, h.n1, h.n2, h.n3⟩
set_option maxHeartbeats 1600000 in
theorem turnMatrix (r c : Int) (v : Value) (xs : List Int) (w : World) (h : Sees w v xs) :
    Calls Try.prog 48 #[.agg #[.int .i64 r, .int .i64 c, v]] w (RetM w (tR r c xs) (tC r c xs) (tV r c xs)) := by
  obtain ⟨W, hW⟩ : ∃ W, W = (w.alloc (.cells #[.int .i64 r, .int .i64 c, v] 39)).alloc (.cells #[.int .i64 0, .int .i64 0, .slice none 0 0] 39) := ⟨_, rfl⟩
  have hv : ∃ a n cap, v = .slice a n cap := by obtain ⟨a, cap, e, _⟩ := h; exact ⟨a, _, cap, e⟩
  obtain ⟨a, n, cap, hv⟩ := hv
  subst hv
  have T1 : Three W w.heap.size (.int .i64 r) (.int .i64 c) (.slice a n cap) := by rw [hW]; exact (Three.new w _ _ _ _).alloc _
  have T2 : Three W (w.heap.size + 1) (.int .i64 0) (.int .i64 0) (.slice none 0 0) := by
    rw [hW]; simpa using Three.new (w.alloc (.cells #[.int .i64 r, .int .i64 c, .slice a n cap] 39)) (.int .i64 0) (.int .i64 0) (.slice none 0 0) 39
  have G0 : w.grownBy W none := by rw [hW]; exact gbt (World.grownBy_alloc _ _ _) (World.grownBy_alloc _ _ _)
  have hs := h.kept G0
  have H0 := Lib.hid h
  clear h
  have hz : w.heap.size + 2 ≤ W.heap.size := by rw [hW]; simp
  rw [hW] at T1 T2 G0 hs hz
  clear hW
  by_cases hm : mv r c xs = true
  · obtain ⟨R, C, rfl, rfl, r1, r2, c1, c2, hl, h25⟩ := mv_dims hm
    have e1 : tR R C xs = C := by simp [tR, hm]
    have e2 : tC R C xs = R := by simp [tC, hm]
    have e3 : tV R C xs = turnL xs R C := by simp [tV, hm]
    rw [e1, e2, e3]
    clear e1 e2 e3
    have HL := Lib.hid hl
    clear hl
    have p0 := T1.c0
    have p1 := T1.c1
    have p2 := T1.c2
    go_enter Try.func48, Try.ntmps48
    go_wp2_with fail
    refine (matrixValid _ _ _ xs _ hs).mono ?_
    rintro e w1 ⟨rfl, hg⟩
    replace T1 := T1.kept hg (by simp)
    replace T2 := T2.kept hg (by simp)
    replace hs := hs.kept hg
    replace G0 := gbt G0 hg
    replace hz := Nat.le_trans hz hg.size
    clear hg p0 p1 p2
    have p0 := T1.c0
    have p1 := T1.c1
    go_wp2_with fail
    refine (emptyMatrix C R c2 r2 _).mono ?_
    rintro e w2 ⟨g, rfl, ho, hg⟩
    obtain ⟨hg1, hg2⟩ : w1.heap.size ≤ g ∧ g < w2.heap.size := by
      have := ho.lt g rfl; exact this
    replace ho : w2.ownsRow w1.heap.size 3 1 (.slice (some ⟨g, 0, none⟩) (C * R) (C * R)) (C * R) (ints (part (turnE xs R C) (fun _ => 0) (C * R) (fun k => decide (k % R < 0)))) := by
      rw [part_none (by intro i _; simp)]; exact ho
    have T3 := Three.new w2 (.int .i64 C) (.int .i64 R) (.slice (some ⟨g, 0, none⟩) (C * R) (C * R)) 39
    have S0 : TS w w1.heap.size w2.heap.size g R C a n cap xs (w2.alloc (.cells #[.int .i64 C, .int .i64 R, .slice (some ⟨g, 0, none⟩) (C * R) (C * R)] 39)) (fun k => decide (k % R < 0)) :=
      ⟨ho.alloc _, (T1.kept hg (by simp)).alloc _, (T2.kept hg (by simp)).alloc _, T3, gbt (gbt G0 hg) (World.grownBy_alloc _ _ _), by omega, by omega, by have := hg.size; omega⟩
    clear ho T1 T2 T3 hg G0 p0 p1 hs
    have q0 := S0.t3.c0
    have q1 := S0.t3.c1
    have q2 := S0.t3.c2
    have p0 := S0.t1.c0
    go_wp2_with fail
    go_loopw [18] (fun i wr => ∃ k : Nat, k ≤ R ∧ i = .int .i64 k ∧ TS w w1.heap.size w2.heap.size g R C a n cap xs wr (fun q => decide (q % R < k)))
      (fun i _ => R - (intOf i).toNat)
    case atStart => exact ⟨0, Nat.zero_le _, rfl, S0⟩
    case round =>
      obtain ⟨k, hk, rfl, hS⟩ := hrel
      obtain ⟨wo, rfl⟩ : ∃ wo : World, wo = wr := ⟨_, rfl⟩
      clear S0 q0 q1 q2 p0
      by_cases hlt : k < R
      · have p0 := hS.t1.c0
        have p1 := hS.t1.c1
        have p2 := hS.t1.c2
        go_wp2_with fail
        refine (rowOf R C k _ _ xs w _ H0.out HL.out ⟨c1, c2⟩ r2 hlt).mono ?_
        rintro e w5 ⟨blk, off, cap', rfl, hrow, hg⟩
        replace hS := hS.kept hg
        clear hg p0 p1 p2
        have HR := Lib.hid hrow
        clear hrow
        go_wp2_with fail
        go_loopw [25] (fun i wr => ∃ j : Nat, j ≤ C ∧ i = .int .i64 j ∧ TS w w1.heap.size w2.heap.size g R C a n cap xs wr (fun q => decide (q % R < k ∨ q % R = k ∧ q / R < j)))
          (fun i _ => C - (intOf i).toNat)
        case atStart => exact ⟨0, Nat.zero_le _, rfl, hS.congr (by intro q _; rw [Bool.eq_iff_iff]; simp)⟩
        case round =>
          obtain ⟨j, hj, rfl, hS5⟩ := hrel
          clear hS
          by_cases hjl : j < C
          · have hx0 := hS5.g0.cell (HR.out j hjl) (by simp)
            obtain ⟨x, hx⟩ : ∃ x, x = xs.getD (k * C + j) 0 := ⟨_, rfl⟩
            rw [← hx] at hx0
            have hin : j * R + k < C * R := lt_of _ _ _ _ hjl hlt
            have hini : (j : Int) * (R : Int) + (k : Int) < ((C * R : Nat) : Int) := by exact_mod_cast hin
            have hi0 : (0 : Int) ≤ (j : Int) * (R : Int) := Int.mul_nonneg (by omega) (by omega)
            have hi1 : (j : Int) * (R : Int) ≤ 25 := by
              have : j * R ≤ 5 * 5 := Nat.mul_le_mul (by omega) r2
              exact_mod_cast this
            have S' := hS5.store (j * R + k) x (by rw [hx]; unfold turnE; rw [mod_of _ _ _ hlt, div_of _ _ _ hlt]) (D' := fun q => decide (q % R < k ∨ q % R = k ∧ q / R < j + 1)) (by
              intro q _
              rw [Bool.eq_iff_iff]
              simp only [decide_eq_true_eq, Bool.or_eq_true, beq_iff_eq, idx_eq (k := q) (c := j) hlt]
              omega)
            have hold := own_cell hS5.own (j * R + k) hin
            have hfz := hS5.own.frozenAt (j * R + k)
            have p0 := hS5.t1.c0
            have q2 := hS5.t3.c2
            clear hS5 hx hin
            go_wp2_with fail
            go_roundw
            case rel => exact ⟨j + 1, by omega, by go_num, S'⟩
            case measure => simp [intOf]; omega
          · obtain rfl : j = C := by omega
            have S' := hS5.congr (D' := fun q => decide (q % R < k + 1)) (by
              intro q hq
              have h1 : q / R < j := Nat.div_lt_of_lt_mul (by rw [Nat.mul_comm]; exact hq)
              rw [Bool.eq_iff_iff]
              simp only [decide_eq_true_eq]
              omega)
            clear hS5
            go_wp2_with fail
            go_roundw
            case rel => exact ⟨k + 1, by omega, by go_num, S'⟩
            case measure => simp [intOf]; omega
      · obtain rfl : k = R := by omega
        have hown := hS.own
        rw [part_all (by intro q _; simp; exact Nat.mod_lt _ (by omega))] at hown
        have e9 : (List.range (C * k)).map (turnE xs k C) = turnL xs k C := by unfold turnL; rw [Nat.mul_comm]
        have e8 : (turnL xs k C).length = C * k := by rw [turnL_len, Nat.mul_comm]
        rw [e9] at hown
        obtain ⟨p0, p1, p2, p3, p4, p5⟩ := hS.t2
        have q0 := hS.t3.c0
        have q1 := hS.t3.c1
        have q2 := hS.t3.c2
        have hG := hS.g0
        have hn1 := hS.n1
        have hb0 : w.heap.size + 2 ≤ w1.heap.size := hz
        clear hS e9
        go_wp2_with fail
        refine bodyPost_ret (v := .agg #[.int .i64 C, .int .i64 k, .slice (some ⟨g, 0, none⟩) (C * k) (C * k)]) (by simp [results, Try.results48, go_sem, p0, p1, p2]) rfl ?_
        rw [← e8] at hown ⊢
        exact ⟨_, _, rfl, own_base (b := w1.heap.size) (by repeat (first | exact hown | (refine ownsRow_setCell_below ?_ (by show w.heap.size + 1 < w1.heap.size; omega) _))) (by omega), by repeat (first | exact hG | (refine gb_setNew ?_ (by omega) _ _))⟩
  · have hm' : mv r c xs = false := by simpa using hm
    have e1 : tR r c xs = 0 := by simp [tR, hm']
    have e2 : tC r c xs = 0 := by simp [tC, hm']
    have e3 : tV r c xs = [] := by simp [tV, hm']
    rw [e1, e2, e3]
    clear e1 e2 e3
    have p0 := T1.c0
    have p1 := T1.c1
    have p2 := T1.c2
    go_enter Try.func48, Try.ntmps48
    go_wp2_with fail
    refine (matrixValid _ _ _ xs _ hs).mono ?_
    rintro e w1 ⟨rfl, hg⟩
    replace T2 := T2.kept hg (by simp)
    replace G0 := gbt G0 hg
    clear hg p0 p1 p2 T1 hs
    obtain ⟨q0, q1, q2, q3, q4, q5⟩ := T2
    go_wp2
    exact bodyPost_ret (v := .agg #[.int .i64 0, .int .i64 0, .slice none 0 0]) (by simp [results, Try.results48, go_sem, q0, q1, q2]) rfl ⟨none, 0, rfl, World.ownsRow_nil _ _ _ _, by repeat (first | exact G0 | (refine gb_setNew ?_ (by omega) _ _))⟩
end Go.Proofs.Ythcochdkclmejaa
