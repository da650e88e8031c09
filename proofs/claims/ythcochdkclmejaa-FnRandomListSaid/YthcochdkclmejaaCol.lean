/- A matrix that is collected number by number, and the contract of the reference's TurnMatrix. Conditions: at most 2 to the 20 values. -/
import Derived.Test.YthcochdkclmejaaTurnS
namespace Go.Proofs.Ythcochdkclmejaa
open Go Go.RowKit

theorem gb_none {w W W' : World} {row : Option Nat} (h : w.grownBy W none) (hg : W.grownBy W' row) (hrow : ∀ k, row = some k → w.heap.size ≤ k) : w.grownBy W' none :=
  ⟨hg.os.trans h.os, hg.tape.trans h.tape, hg.output.trans h.output, Nat.le_trans h.size hg.size, fun k hk hne => (hg.block k (Nat.lt_of_lt_of_le hk h.size) (fun e => by have := hrow k e.symm; omega)).trans (h.block k hk hne)⟩
/-- The state: k numbers ys have been collected in the matrix in block B3, the newest block of W3; whatever else lay in W3 lies as it lay. -/
structure Col (W3 wr : World) (B3 : Nat) (R C : Int) (k : Nat) (sl : Value) (ys : List Int) : Prop where
  own : wr.ownsRow (B3 + 1) 3 1 sl k (ints ys)
  t3 : Three wr B3 (.int .i64 R) (.int .i64 C) sl
  gw : W3.grownBy wr (some B3)
  n : W3.heap.size = B3 + 1
theorem Col.start (W : World) (R C : Int) : Col (W.alloc (.cells #[.int .i64 R, .int .i64 C, .slice none 0 0] 39)) (W.alloc (.cells #[.int .i64 R, .int .i64 C, .slice none 0 0] 39)) W.heap.size R C 0 (.slice none 0 0) [] :=
  ⟨World.ownsRow_nil _ _ _ _, Three.new _ _ _ _ _, World.grownBy.refl _ _, by simp⟩
theorem gb_row0 {a b c : World} {q : Nat} (h : a.grownBy b (some q)) (k : b.grownBy c none) : a.grownBy c (some q) :=
  ⟨k.os.trans h.os, k.tape.trans h.tape, k.output.trans h.output, Nat.le_trans h.size k.size, fun i hi hne => (k.block i (Nat.lt_of_lt_of_le hi h.size) (by simp)).trans (h.block i hi hne)⟩
theorem gb_set (w : World) (b o : Nat) (v : Value) : w.grownBy (w.setCell ⟨b, o, none⟩ v) (some b) :=
  ⟨rfl, rfl, rfl, by simp, fun k _ hk => Below.heap_setCell _ _ _ k (fun e => hk (by rw [e]))⟩
theorem ne_of {v v' : Value} {P Q : Nat → Prop} (h : ∀ q, v.ownBlock = some q → P q) (h' : ∀ q, v'.ownBlock = some q → Q q) (no : ∀ q, P q → Q q → False) : v.ownBlock = none ∨ v.ownBlock ≠ v'.ownBlock := by
  cases hv : v.ownBlock with
  | none => exact .inl rfl
  | some q => right; intro e; exact no q (h q hv) (h' q e.symm)
/-- The three cells are written. -/
theorem Three.set {w : World} {B : Nat} {x y z : Value} (h : Three w B x y z) (x' y' z' : Value) :
    Three (((w.setCell ⟨B, 0, none⟩ x').setCell ⟨B, 1, none⟩ y').setCell ⟨B, 2, none⟩ z') B x' y' z' ∧ w.grownBy (((w.setCell ⟨B, 0, none⟩ x').setCell ⟨B, 1, none⟩ y').setCell ⟨B, 2, none⟩ z') (some B) := by
  refine ⟨⟨?_, ?_, ?_, ?_, ?_, ?_⟩, gbt (gbt (gb_set _ _ _ _) (gb_set _ _ _ _)) (gb_set _ _ _ _)⟩
  · rw [World.cell?_setCell_other _ _ _ _ (by simp), World.cell?_setCell_other _ _ _ _ (by simp)]; exact World.cell?_setCell_same _ _ _ h.c0
  · rw [World.cell?_setCell_other _ _ _ _ (by simp)]; exact World.cell?_setCell_same _ _ _ ((World.cell?_setCell_other _ _ _ _ (by simp)).trans h.c1)
  · exact World.cell?_setCell_same _ _ _ ((World.cell?_setCell_other _ _ _ _ (by simp)).trans ((World.cell?_setCell_other _ _ _ _ (by simp)).trans h.c2))
  · rw [World.frozen?_setCell, World.frozen?_setCell, World.frozen?_setCell]; exact h.f0
  · rw [World.frozen?_setCell, World.frozen?_setCell, World.frozen?_setCell]; exact h.f1
  · rw [World.frozen?_setCell, World.frozen?_setCell, World.frozen?_setCell]; exact h.f2
theorem Col.kept {W3 wr w' : World} {B3 : Nat} {R C : Int} {k : Nat} {sl : Value} {ys : List Int} (h : Col W3 wr B3 R C k sl ys) (hg : wr.grownBy w' none) : Col W3 w' B3 R C k sl ys :=
  ⟨own_kept h.own hg, h.t3.kept hg (by simp), gb_row0 h.gw hg, h.n⟩
/-- Behind an append onto the numbers: the matrix' own cells, what lay in W3, and the state behind the store. -/
theorem Col.app {W3 wr w1 : World} {B3 : Nat} {R C : Int} {k : Nat} {sl : Value} {ys : List Int} (h : Col W3 wr B3 R C k sl ys) {gg cap' : Nat} {x : Int}
    (ho : w1.ownsRow (B3 + 1) 3 1 (.slice (some ⟨gg, 0, none⟩) (k + 1) cap') (k + 1) (ints ys ++ [.int .i64 x])) (hg : wr.grownBy w1 sl.ownBlock) :
    Three w1 B3 (.int .i64 R) (.int .i64 C) sl ∧ W3.grownBy w1 (some B3) ∧ Col W3 (w1.setCell ⟨B3, 2, none⟩ (.slice (some ⟨gg, 0, none⟩) (k + 1) cap')) B3 R C (k + 1) (.slice (some ⟨gg, 0, none⟩) (k + 1) cap') (ys ++ [x]) := by
  have hrow : ∀ j, sl.ownBlock = some j → B3 + 1 ≤ j := fun j e => (h.own.lt j e).1
  have t3 := h.t3.kept hg (by intro e; have := hrow _ e.symm; omega)
  have gw : W3.grownBy w1 (some B3) := ⟨hg.os.trans h.gw.os, hg.tape.trans h.gw.tape, hg.output.trans h.gw.output, Nat.le_trans h.gw.size hg.size, fun i hi hne =>
    (hg.block i (Nat.lt_of_lt_of_le hi h.gw.size) (fun e => by have := hrow i e.symm; have := h.n; omega)).trans (h.gw.block i hi hne)⟩
  refine ⟨t3, gw, ⟨?_, ?_, gbt gw (gb_set w1 B3 2 _), h.n⟩⟩
  · have := ownsRow_setCell_below ho (a := ⟨B3, 2, none⟩) (by show B3 < B3 + 1; omega) (.slice (some ⟨gg, 0, none⟩) (k + 1) cap')
    simpa [ints] using this
  · exact ⟨(World.cell?_setCell_other _ _ _ _ (by simp)).trans t3.c0, (World.cell?_setCell_other _ _ _ _ (by simp)).trans t3.c1, World.cell?_setCell_same _ _ _ t3.c2,
      (World.frozen?_setCell _ _ _ _).trans t3.f0, (World.frozen?_setCell _ _ _ _).trans t3.f1, (World.frozen?_setCell _ _ _ _).trans t3.f2⟩
theorem range_succ_map {f : Nat → Int} {k : Nat} : (List.range (k + 1)).map f = (List.range k).map f ++ [f k] := by simp [List.range_succ]
theorem turn_row {xs : List Int} {R C c r : Nat} (h : r < R) : turnE xs R C (c * R + r) = xs.getD (r * C + c) 0 := by
  unfold turnE; rw [mod_of _ _ _ h, div_of _ _ _ h]

set_option maxHeartbeats 1600000 in
theorem turnMatrix_s (r c : Int) (v : Value) (xs : List Int) (w : World) (h : Sees w v xs) (hn : xs.length ≤ 1048576) :
    Calls Try.prog 49 #[.agg #[.int .i64 r, .int .i64 c, v]] w (RetM w (tR r c xs) (tC r c xs) (tV r c xs)) := by
  obtain ⟨i0, hi, hz0, hz1, hz2⟩ := info_parts info_int
  obtain ⟨W, hW⟩ : ∃ W, W = (w.alloc (.cells #[.int .i64 r, .int .i64 c, v] 39)).alloc (.cells #[.int .i64 0, .int .i64 0, .slice none 0 0] 39) := ⟨_, rfl⟩
  obtain ⟨a, cap, hv⟩ : ∃ a cap, v = .slice a xs.length cap := by obtain ⟨a, cap, e, _⟩ := h; exact ⟨a, cap, e⟩
  subst hv
  have T1 : Three W w.heap.size (.int .i64 r) (.int .i64 c) (.slice a xs.length cap) := by rw [hW]; exact (Three.new w _ _ _ _).alloc _
  have T2 : Three W (w.heap.size + 1) (.int .i64 0) (.int .i64 0) (.slice none 0 0) := by
    rw [hW]; simpa using Three.new (w.alloc (.cells #[.int .i64 r, .int .i64 c, .slice a xs.length cap] 39)) (.int .i64 0) (.int .i64 0) (.slice none 0 0) 39
  have G0 : w.grownBy W none := by rw [hW]; exact gbt (World.grownBy_alloc _ _ _) (World.grownBy_alloc _ _ _)
  have hs := h.kept G0
  have hz : w.heap.size + 2 ≤ W.heap.size := by rw [hW]; simp
  rw [hW] at T1 T2 G0 hs hz
  clear hW h
  by_cases hm : mv r c xs = true
  · obtain ⟨R, C, rfl, rfl, r1, r2, c1, c2, hl, h25⟩ := mv_dims hm
    have e1 : tR R C xs = C := by simp [tR, hm]
    have e2 : tC R C xs = R := by simp [tC, hm]
    have e3 : tV R C xs = turnL xs R C := by simp [tV, hm]
    rw [e1, e2, e3]
    clear e1 e2 e3
    have HL := Lib.hid hl
    clear hl
    have p0 := T1.c0
    have p1 := T1.c1
    have p2 := T1.c2
    go_enter Try.func49, Try.ntmps49
    go_wp2_with fail
    refine (l1OwnMatrix _ _ _ xs _ hs hn).mono ?_
    rintro e w1 ⟨a1, cap1, rfl, ho, hg⟩
    replace T1 := T1.kept hg (by simp)
    replace T2 := T2.kept hg (by simp)
    replace G0 := gbt G0 hg
    replace hz := Nat.le_trans hz hg.size
    clear hg p0 p1 p2 hs
    obtain ⟨p0, p1, p2, p3, p4, p5⟩ := id T1
    obtain ⟨T1', hs1⟩ := T1.set (.int .i64 R) (.int .i64 C) (.slice a1 xs.length cap1)
    have hob : ∀ q, (Value.slice a1 xs.length cap1).ownBlock = some q → w.heap.size + 2 ≤ q ∧ q < w1.heap.size := fun q e => by have := ho.lt q e; simp at this; omega
    replace ho := ho.kept hs1 (by right; intro e; have := (hob _ e).1; omega)
    replace T2 := T2.kept hs1 (by simp)
    replace G0 := gb_none G0 hs1 (fun k e => by cases e; omega)
    replace hz := Nat.le_trans hz hs1.size
    have hzz := hs1.size
    replace hob : ∀ q, (Value.slice a1 xs.length cap1).ownBlock = some q → w.heap.size + 2 ≤ q ∧ q < (((w1.setCell ⟨w.heap.size, 0, none⟩ (.int .i64 R)).setCell ⟨w.heap.size, 1, none⟩ (.int .i64 C)).setCell ⟨w.heap.size, 2, none⟩ (.slice a1 xs.length cap1)).heap.size := fun q e => ⟨(hob q e).1, Nat.lt_of_lt_of_le (hob q e).2 hzz⟩
    clear hs1 T1 hzz
    go_wp2_with fail
    generalize hW : (((w1.setCell ⟨w.heap.size, 0, none⟩ (.int .i64 R)).setCell ⟨w.heap.size, 1, none⟩ (.int .i64 C)).setCell ⟨w.heap.size, 2, none⟩ (.slice a1 xs.length cap1)) = W1 at *
    clear hW p0 p1 p2 p3 p4 p5
    refine (matrixValid_s _ _ _ xs _ (Sees.of_own ho)).mono ?_
    rintro e w2 ⟨rfl, hg⟩
    replace T1' := T1'.kept hg (by simp)
    replace T2 := T2.kept hg (by simp)
    replace ho := own_kept ho hg
    replace hob : ∀ q, (Value.slice a1 xs.length cap1).ownBlock = some q → w.heap.size + 2 ≤ q ∧ q < w2.heap.size := fun q e => ⟨(hob q e).1, Nat.lt_of_lt_of_le (hob q e).2 hg.size⟩
    replace G0 := gbt G0 hg
    replace hz := Nat.le_trans hz hg.size
    clear hg
    have HB := Lib.hid hob
    clear hob
    have p0 := T1'.c0
    have p1 := T1'.c1
    go_wp2_with fail
    have S0 := Col.start w2 C R
    obtain ⟨W3, hW3⟩ : ∃ W3, W3 = w2.alloc (.cells #[.int .i64 C, .int .i64 R, .slice none 0 0] 39) := ⟨_, rfl⟩
    replace T1' := T1'.alloc (.cells #[.int .i64 C, .int .i64 R, .slice none 0 0] 39)
    replace T2 := T2.alloc (.cells #[.int .i64 C, .int .i64 R, .slice none 0 0] 39)
    replace ho := ho.alloc (.cells #[.int .i64 C, .int .i64 R, .slice none 0 0] 39)
    replace G0 := gbt G0 (World.grownBy_alloc w2 (.cells #[.int .i64 C, .int .i64 R, .slice none 0 0] 39) none)
    rw [← hW3] at S0 T1' T2 ho G0 ⊢
    clear hW3 p0 p1
    go_loopw [4] (fun i wr => ∃ (k : Nat) (sl : Value), k ≤ C ∧ i = .int .i64 k ∧ Col W3 wr w2.heap.size C R (k * R) sl ((List.range (k * R)).map (turnE xs R C)))
      (fun i _ => C - (intOf i).toNat)
    case atStart => exact ⟨0, _, Nat.zero_le _, rfl, by simpa using S0⟩
    case round =>
      obtain ⟨k, sl0, hk, rfl, hS⟩ := hrel
      obtain ⟨wo, rfl⟩ : ∃ wo : World, wo = wr := ⟨_, rfl⟩
      clear S0
      by_cases hlt : k < C
      · have p1 := (T1'.kept hS.gw (by simp; omega)).c1
        go_wp2_with fail
        clear p1
        go_loopw [5] (fun i wr => ∃ (j : Nat) (sl : Value), j ≤ R ∧ i = .int .i64 j ∧ Col W3 wr w2.heap.size C R (k * R + j) sl ((List.range (k * R + j)).map (turnE xs R C)))
          (fun i _ => R - (intOf i).toNat)
        case atStart => exact ⟨0, _, Nat.zero_le _, rfl, hS⟩
        case round =>
          obtain ⟨j, sl, hj, rfl, hS5⟩ := hrel
          clear hS
          have t1 := T1'.kept hS5.gw (by simp; omega)
          have p0 := t1.c0
          by_cases hjl : j < R
          · have p1 := t1.c1
            have p2 := t1.c2
            have hpos : 0 < xs.length := by rw [HL.out]; exact Nat.mul_pos (by omega) (by omega)
            obtain ⟨g1, cp, he, _, _⟩ := own_form ho hpos
            have hg1 : a1 = some ⟨g1, 0, none⟩ := by simp at he; exact he.1
            subst hg1
            have hgb := (HB.out g1 rfl).2
            have hin : j * C + k < xs.length := by rw [HL.out]; exact lt_of _ _ _ _ hjl hlt
            have hx0 := hS5.gw.cell (own_cell ho (j * C + k) hin) (by simp; omega)
            obtain ⟨x, hx⟩ : ∃ x, x = xs.getD (j * C + k) 0 := ⟨_, rfl⟩
            rw [← hx] at hx0
            have HX : Hid (turnE xs R C (k * R + j) = x) := (turn_row hjl).trans hx.symm
            clear hx he
            have hini : (j : Int) * (C : Int) + (k : Int) < (xs.length : Int) := by exact_mod_cast hin
            have hi0 : (0 : Int) ≤ (j : Int) * (C : Int) := Int.mul_nonneg (by omega) (by omega)
            have hi1 : (j : Int) * (C : Int) ≤ 25 := by
              have : j * C ≤ 5 * 5 := Nat.mul_le_mul (by omega) c2
              exact_mod_cast this
            have ew1 : IntKind.i64.wrap ((j : Int) * (C : Int)) = (j : Int) * (C : Int) := by rw [IntKind.wrap_i64]; omega
            have ew2 : IntKind.i64.wrap ((j : Int) * (C : Int) + (k : Int)) = (j : Int) * (C : Int) + (k : Int) := by rw [IntKind.wrap_i64]; omega
            have hi2 : (0 : Int) ≤ (j : Int) * (C : Int) + (k : Int) := by omega
            have et : ((j : Int) * (C : Int) + (k : Int)).toNat = j * C + k := by
              have : (j : Int) * (C : Int) + (k : Int) = ((j * C + k : Nat) : Int) := by simp
              rw [this, Int.toNat_natCast]
            have hkr : k * R + j < 30 := by
              have : k * R ≤ 5 * 5 := Nat.mul_le_mul (by omega) r2
              omega
            have zB := hS5.t3.lt
            have hz5 : w.heap.size < wr.heap.size := t1.lt
            have hz6 : g1 < wr.heap.size := by omega
            have hD := (hS5.kept (World.grownBy_alloc wr (.cells #[.int .i64 x] 3) none)).kept (gb_drew _ none)
            have hc3 := hS5.t3.c2
            obtain ⟨sa, sc, rfl⟩ := own_slice hS5.own
            clear hS5 t1
            go_wp2_with fail
            go_region_law (first
              | (refine step_append_lies _ (by rfl) _ _ 34 (by rfl) (w2.heap.size + 1) 3 i0 (.int .i64 0) 1 8 Try.underlying34 hi hz0 hz1 hz2 rfl (by omega) (.slice sa (k * R + j) sc) (k * R + j) (ints ((List.range (k * R + j)).map (turnE xs R C))) (by rfl) hD.own ⟨wr.heap.size, 0, none⟩ 1 1 [.int .i64 x] (by rfl) (by rfl) (World.news_of_block (cs := #[.int .i64 x]) (t := 3) (fr := (0, 0)) (heap_alloc_new wr _)) (by simp [Value.oneCell']) (by omega) (by unfold maxLen; omega) (by omega) (by simp; omega) _ rfl ?_; intro gg cg w4 ho4 hg4 hat hlt4; obtain ⟨t9, gw4, hE⟩ := hD.app ho4 hg4; have hcE := t9.c2; have hfE := t9.f2; clear hD hc3 ho4 hg4 gw4 t9))
            all_goals go_wp2
            all_goals go_roundw
            all_goals first
              | exact ⟨j + 1, _, by omega, by go_num, by rw [← Nat.add_assoc, range_succ_map, HX.out]; exact hE⟩
              | (simp [intOf]; omega)
          · obtain rfl : j = R := by omega
            clear p0
            have p0 := t1.c0
            go_wp2_with fail
            go_roundw
            case rel => exact ⟨k + 1, _, by omega, by go_num, by rw [Nat.add_mul, Nat.one_mul]; exact hS5⟩
            case measure => simp [intOf]; omega
      · obtain rfl : k = C := by omega
        have hown := hS.own
        have e9 : (List.range (k * R)).map (turnE xs R k) = turnL xs R k := by unfold turnL; rw [Nat.mul_comm]
        have e8 : (turnL xs R k).length = k * R := by rw [turnL_len, Nat.mul_comm]
        rw [e9] at hown
        obtain ⟨sa, sc, rfl⟩ := own_slice hown
        have t2 := T2.kept hS.gw (by simp; omega)
        obtain ⟨p0, p1, p2, p3, p4, p5⟩ := t2
        have q0 := hS.t3.c0
        have q1 := hS.t3.c1
        have q2 := hS.t3.c2
        have p6 := (T1'.kept hS.gw (by simp; omega)).c1
        have hG := gb_none G0 hS.gw (fun q e => by cases e; omega)
        have hzw : w.heap.size + 2 ≤ w2.heap.size := hz
        clear hS e9
        go_wp2_with fail
        refine bodyPost_ret (v := .agg #[.int .i64 k, .int .i64 R, .slice sa (k * R) sc]) (by simp [results, Try.results49, go_sem, p0, p1, p2]) rfl ?_
        rw [← e8] at hown ⊢
        exact ⟨_, _, rfl, own_base (b := w2.heap.size + 1) (by repeat (first | exact hown | (refine ownsRow_setCell_below ?_ (by show w.heap.size + 1 < w2.heap.size + 1; omega) _))) (by omega), by repeat (first | exact hG | (refine gb_setNew ?_ (by omega) _ _))⟩
  · have hm' : mv r c xs = false := by simpa using hm
    have e1 : tR r c xs = 0 := by simp [tR, hm']
    have e2 : tC r c xs = 0 := by simp [tC, hm']
    have e3 : tV r c xs = [] := by simp [tV, hm']
    rw [e1, e2, e3]
    clear e1 e2 e3
    have p0 := T1.c0
    have p1 := T1.c1
    have p2 := T1.c2
    go_enter Try.func49, Try.ntmps49
    go_wp2_with fail
    refine (l1OwnMatrix _ _ _ xs _ hs hn).mono ?_
    rintro e w1 ⟨a1, cap1, rfl, ho, hg⟩
    replace T1 := T1.kept hg (by simp)
    replace T2 := T2.kept hg (by simp)
    replace G0 := gbt G0 hg
    replace hz := Nat.le_trans hz hg.size
    clear hg p0 p1 p2 hs
    obtain ⟨p0, p1, p2, p3, p4, p5⟩ := id T1
    obtain ⟨T1', hs1⟩ := T1.set (.int .i64 r) (.int .i64 c) (.slice a1 xs.length cap1)
    have hob : ∀ q, (Value.slice a1 xs.length cap1).ownBlock = some q → w.heap.size + 2 ≤ q ∧ q < w1.heap.size := fun q e => by have := ho.lt q e; simp at this; omega
    replace ho := ho.kept hs1 (by right; intro e; have := (hob _ e).1; omega)
    replace T2 := T2.kept hs1 (by simp)
    replace G0 := gb_none G0 hs1 (fun k e => by cases e; omega)
    replace hz := Nat.le_trans hz hs1.size
    have hzz := hs1.size
    replace hob : ∀ q, (Value.slice a1 xs.length cap1).ownBlock = some q → w.heap.size + 2 ≤ q ∧ q < (((w1.setCell ⟨w.heap.size, 0, none⟩ (.int .i64 r)).setCell ⟨w.heap.size, 1, none⟩ (.int .i64 c)).setCell ⟨w.heap.size, 2, none⟩ (.slice a1 xs.length cap1)).heap.size := fun q e => ⟨(hob q e).1, Nat.lt_of_lt_of_le (hob q e).2 hzz⟩
    clear hs1 T1 hzz
    go_wp2_with fail
    generalize hW : (((w1.setCell ⟨w.heap.size, 0, none⟩ (.int .i64 r)).setCell ⟨w.heap.size, 1, none⟩ (.int .i64 c)).setCell ⟨w.heap.size, 2, none⟩ (.slice a1 xs.length cap1)) = W1 at *
    clear hW p0 p1 p2 p3 p4 p5
    refine (matrixValid_s _ _ _ xs _ (Sees.of_own ho)).mono ?_
    rintro e w2 ⟨rfl, hg⟩
    replace T1' := T1'.kept hg (by simp)
    replace T2 := T2.kept hg (by simp)
    replace ho := own_kept ho hg
    replace hob : ∀ q, (Value.slice a1 xs.length cap1).ownBlock = some q → w.heap.size + 2 ≤ q ∧ q < w2.heap.size := fun q e => ⟨(hob q e).1, Nat.lt_of_lt_of_le (hob q e).2 hg.size⟩
    replace G0 := gbt G0 hg
    replace hz := Nat.le_trans hz hg.size
    clear hg
    have HB := Lib.hid hob
    clear hob
    clear T1' ho HB
    obtain ⟨q0, q1, q2, q3, q4, q5⟩ := T2
    go_wp2
    exact bodyPost_ret (v := .agg #[.int .i64 0, .int .i64 0, .slice none 0 0]) (by simp [results, Try.results49, go_sem, q0, q1, q2]) rfl ⟨none, 0, rfl, World.ownsRow_nil _ _ _ _, by repeat (first | exact G0 | (refine gb_setNew ?_ (by omega) _ _))⟩
end Go.Proofs.Ythcochdkclmejaa
