/- The contracts of the drawing functions of ring numbers, seeds and shared numbers: each returns some number that fits 64 bits and turns nothing that was there. Conditions: the code is a readable slice of bytes. -/
import Derived.Test.YthcochdkclmejaaPick
namespace Go.Proofs.Ythcochdkclmejaa
open Go Go.RowKit

/-- A cell of a new block whose cells are integers. -/
theorem lit_cell (w : World) (l : List Int) (T : TypeId) (lo hi : Int) (hl : ∀ x ∈ l, lo ≤ x ∧ x ≤ hi) (v : Int) (h0 : 0 ≤ v) (h1 : v < l.length) :
    ∃ x : Int, lo ≤ x ∧ x ≤ hi ∧ (w.alloc (.cells (l.map (Value.int .i64)).toArray T)).cell? ⟨w.heap.size, v.toNat, none⟩ = some (.int .i64 x) := by
  have hv : v.toNat < l.length := by omega
  have hm := hl (l[v.toNat]) (List.getElem_mem hv)
  refine ⟨l[v.toNat], hm.1, hm.2, ?_⟩
  rw [World.cell?_alloc_at _ _ _ _ rfl]
  simp [hv]

theorem lit_cellP (w : World) (l : List Int) (T : TypeId) (Pr : Int → Prop) (hl : ∀ x ∈ l, Pr x) (v : Int) (h0 : 0 ≤ v) (h1 : v < l.length) :
    ∃ x : Int, Pr x ∧ (w.alloc (.cells (l.map (Value.int .i64)).toArray T)).cell? ⟨w.heap.size, v.toNat, none⟩ = some (.int .i64 x) := by
  have hv : v.toNat < l.length := by omega
  refine ⟨l[v.toNat], hl _ (List.getElem_mem hv), ?_⟩
  rw [World.cell?_alloc_at _ _ _ _ rfl]
  simp [hv]
/-- A number of 64 bits, behind a name. -/
def I64 (x : Int) : Prop := -9223372036854775808 ≤ x ∧ x ≤ 9223372036854775807
theorem I64.mk {x : Int} (h1 : -9000000000000000000 ≤ x) (h2 : x ≤ 9000000000000000000) : I64 x := ⟨by omega, by omega⟩
theorem I64.wf {x : Int} (h : I64 x) : (Lit.int .i64 x).wf = true := i64_wf h.1 h.2

theorem odd {a : Option Addr} {n cap : Nat} {w0 w : World} {b P : Nat} (hr : Rd a n cap w0 w b P) (hP : P < 1000000) (m : Int) (hm : 0 ≤ m ∧ m ≤ 4294967296) :
    Calls Try.prog 79 #[.pointer (some ⟨b, 0, none⟩), .int .i64 m] w (Gives a n cap w0 w b (P + 1) IsBool) := by
  by_cases h : 0 < m
  · go_enter Try.func79, Try.ntmps79
    go_wp2_with fail
    refine (pick hr hP m ⟨by omega, hm.2⟩).mono ?_
    rintro e w1 ⟨v, ⟨x, rfl, hx⟩, rfl, hr1, hg1⟩
    go_wp2_with fail
    go_ret
    exact ⟨_, ⟨_, rfl⟩, rfl, hr1, hg1⟩
  · have h' : ¬ 0 < m := h
    go_enter Try.func79, Try.ntmps79
    go_wp2_with fail
    go_ret
    exact ⟨_, ⟨_, rfl⟩, rfl, hr.le (by omega), World.grownBy.refl _ _⟩
/-- With 0 it is never odd, and no byte is read. -/
theorem odd_zero (bb : Nat) (w : World) :
    Calls Try.prog 79 #[.pointer (some ⟨bb, 0, none⟩), .int .i64 0] w fun e w' => e = .returned (.bool false) ∧ w = w' := by
  go_enter Try.func79, Try.ntmps79
  go_wp2_with fail
  go_ret
  exact ⟨rfl, rfl⟩
theorem l20Ring {a : Option Addr} {n cap : Nat} {w0 w : World} {b P : Nat} (hr : Rd a n cap w0 w b P) (hP : P < 900000) (m : Int) (hm : 0 ≤ m ∧ m ≤ 4294967296) :
    Calls Try.prog 77 #[.pointer (some ⟨b, 0, none⟩), .int .i64 m] w (Gives a n cap w0 w b (P + 6) (IntIn (-1) 1099511627776)) := by
  go_enter Try.func77, Try.ntmps77
  go_wp2_with fail
  refine (pick hr (by omega) 256 (by decide)).mono ?_
  rintro e w1 ⟨v1, ⟨x1, rfl, l1, u1⟩, rfl, hr1, hg1⟩
  go_wp2_with fail
  refine (pick hr1 (by omega) 256 (by decide)).mono ?_
  rintro e w2 ⟨v2, ⟨x2, rfl, l2, u2⟩, rfl, hr2, hg2⟩
  go_wp2_with fail
  refine (l1Ring _ _).mono ?_
  rintro e w2' ⟨rfl, rfl⟩
  go_wp2_with fail
  refine (pick hr2 (by omega) 256 (by decide)).mono ?_
  rintro e w3 ⟨v3, ⟨x3, rfl, l3, u3⟩, rfl, hr3, hg3⟩
  go_wp2_with fail
  refine (pick (hr3.alloc _) (by omega) 8 (by decide)).mono ?_
  rintro e w4 ⟨v4, ⟨x4, rfl, l4, u4⟩, rfl, hr4, hg4⟩
  obtain ⟨x5, l5, u5, hc5⟩ := lit_cell w3 [x1 * 16, (x2 - 128) % 4096, x3, 0, 4095, 2048, 2047, 16] 3 (-1) 1099511627776 (by intro x hx; simp at hx; omega) x4 l4 (by simp; omega)
  have hc6 := hg4.cell hc5 (by have := hr3.b_lt; simp; omega)
  clear hc5
  have u4' : x4 < 8 := by omega
  go_wp2_with fail
  refine (odd hr4 (by omega) m hm).mono ?_
  rintro e w5 ⟨v5, ⟨o, rfl⟩, rfl, hr5, hg5⟩
  have G5 : w.grownBy w5 (some b) := gb_trans hg1 (gb_trans hg2 (gb_trans hg3 (gb_trans (World.grownBy_alloc _ _ _) (gb_trans hg4 hg5))))
  clear hc6 hg1 hg2 hg3 hg4 hg5
  cases o with
  | false =>
    go_wp2_with fail
    go_ret
    exact ⟨_, ⟨_, rfl, l5, u5⟩, rfl, hr5.le (by omega), G5⟩
  | true =>
    go_wp2_with fail
    refine (pick (hr5.alloc _) (by omega) 3 (by decide)).mono ?_
    rintro e w6 ⟨v6, ⟨x6, rfl, l6, u6⟩, rfl, hr6, hg6⟩
    obtain ⟨x7, l7, u7, hc7⟩ := lit_cell w5 [-1, 4096, 1099511627776] 3 (-1) 1099511627776 (by intro x hx; simp at hx; omega) x6 l6 (by simp; omega)
    have hc8 := hg6.cell hc7 (by have := hr5.b_lt; simp; omega)
    clear hc7
    have u6' : x6 < 3 := by omega
    go_wp2_with fail
    go_ret
    exact ⟨_, ⟨_, rfl, l7, u7⟩, rfl, hr6.le (by omega), gb_trans G5 (gb_trans (World.grownBy_alloc _ _ _) hg6)⟩
theorem l20Seed {a : Option Addr} {n cap : Nat} {w0 w : World} {b P : Nat} (hr : Rd a n cap w0 w b P) (hP : P < 900000) (m : Int) (hm : 0 ≤ m ∧ m ≤ 4294967296) :
    Calls Try.prog 70 #[.pointer (some ⟨b, 0, none⟩), .int .i64 m] w (Gives a n cap w0 w b (P + 3) (IntIn (-1) 2147483647)) := by
  go_enter Try.func70, Try.ntmps70
  go_wp2_with fail
  refine (odd hr (by omega) m hm).mono ?_
  rintro e w1 ⟨v1, ⟨o, rfl⟩, rfl, hr1, hg1⟩
  cases o with
  | true =>
    go_wp2_with fail
    refine (pick (hr1.alloc _) (by omega) 3 (by decide)).mono ?_
    rintro e w2 ⟨v2, ⟨x2, rfl, l2, u2⟩, rfl, hr2, hg2⟩
    obtain ⟨x3, l3, u3, hc3⟩ := lit_cell w1 [0, -1, 2147483647] 3 (-1) 2147483647 (by intro x hx; simp at hx; omega) x2 l2 (by simp; omega)
    have hc4 := hg2.cell hc3 (by have := hr1.b_lt; simp; omega)
    clear hc3
    have u2' : x2 < 3 := by omega
    go_wp2_with fail
    go_ret
    exact ⟨_, ⟨_, rfl, l3, u3⟩, rfl, hr2.le (by omega), gb_trans hg1 (gb_trans (World.grownBy_alloc _ _ _) hg2)⟩
  | false =>
    go_wp2_with fail
    refine (pick hr1 (by omega) 256 (by decide)).mono ?_
    rintro e w2 ⟨v2, ⟨x2, rfl, l2, u2⟩, rfl, hr2, hg2⟩
    go_wp2_with fail
    refine (pick ((hr2.alloc _).alloc _) (by omega) 6 (by decide)).mono ?_
    rintro e w3 ⟨v3, ⟨x3, rfl, l3, u3⟩, rfl, hr3, hg3⟩
    obtain ⟨x4, l4, u4, hc4⟩ := lit_cell (w2.alloc (.cells #[.int .i64 (1 + x2 * 8000000), .int .i64 1, .int .i64 2147483646] 3)) [0, 0, 0, 0, 1, 2] 3 0 2 (by intro x hx; simp at hx; omega) x3 l3 (by simp; omega)
    have hc5 := hg3.cell hc4 (by have := hr2.b_lt; simp; omega)
    simp at hc5
    obtain ⟨x6, l6, u6, hc6⟩ := lit_cell w2 [1 + x2 * 8000000, 1, 2147483646] 3 (-1) 2147483647 (by intro x hx; simp at hx; omega) x4 l4 (by simp; omega)
    have hc7 := hg3.cell ((World.cell?_alloc_past _ _ _ (by simp)).trans hc6) (by have := hr2.b_lt; simp; omega)
    clear hc4 hc6
    have u3' : x3 < 6 := by omega
    have u4' : x4 < 3 := by omega
    go_wp2_with fail
    go_ret
    exact ⟨_, ⟨_, rfl, l6, u6⟩, rfl, hr3.le (by omega), gb_trans hg1 (gb_trans hg2 (gb_trans (World.grownBy_alloc _ _ _) (gb_trans (World.grownBy_alloc _ _ _) hg3)))⟩
/-- A shared number of numbers of 64 bits. -/
def IsShared (v : Value) : Prop := ∃ x y : Int, v = .agg #[.int .i64 x, .int .i64 y] ∧ I64 x ∧ I64 y
theorem l20Shared {a : Option Addr} {n cap : Nat} {w0 w : World} {b P : Nat} (hr : Rd a n cap w0 w b P) (hP : P < 800000) (m : Int) (hm : 0 ≤ m ∧ m ≤ 4294967296) :
    Calls Try.prog 57 #[.pointer (some ⟨b, 0, none⟩), .int .i64 m] w (Gives a n cap w0 w b (P + 20) IsShared) := by
  go_enter Try.func57, Try.ntmps57
  go_wp2_with fail
  have T4 := Two.new w (.int .i64 0) (.int .i64 0) 26
  refine (l20Ring (hr.alloc _) (by omega) 0 (by decide)).mono ?_
  rintro e w1 ⟨v1, ⟨x1, rfl, l1, u1⟩, rfl, hr1, hg1⟩
  replace T4 := T4.kept hg1 (by have := hr.b_lt; simp; omega)
  go_wp2_with fail
  refine (l20Ring hr1 (by omega) 0 (by decide)).mono ?_
  rintro e w2 ⟨v2, ⟨x2, rfl, l2, u2⟩, rfl, hr2, hg2⟩
  replace T4 := T4.kept hg2 (by have := hr.b_lt; simp; omega)
  go_wp2_with fail
  have T5 := Two.new w2 (.int .i64 x1) (.int .i64 x2) 26
  refine (odd (hr2.alloc _) (by omega) m hm).mono ?_
  rintro e w3 ⟨v3, ⟨o, rfl⟩, rfl, hr3, hg3⟩
  replace T4 := (T4.alloc _).kept hg3 (by have := hr.b_lt; simp; omega)
  replace T5 := T5.kept hg3 (by have := hr2.b_lt; simp; omega)
  have G3 : w.grownBy w3 (some b) := gb_trans (World.grownBy_alloc _ _ _) (gb_trans hg1 (gb_trans hg2 (gb_trans (World.grownBy_alloc _ _ _) hg3)))
  have z4 : w.heap.size < w2.heap.size := by have := hg1.size; have := hg2.size; simp at *; omega
  have zb : b < w.heap.size := hr.b_lt
  clear hg1 hg2 hg3
  cases o with
  | false =>
    obtain ⟨p0, p1, _, _⟩ := T4
    obtain ⟨q0, q1, _, _⟩ := T5
    have hB := hr.below.size
    go_wp2_with fail
    exact bodyPost_ret (v := .agg #[.int .i64 x1, .int .i64 x2]) (by simp [results, Try.results57, go_sem, p0, p1]) rfl ⟨_, ⟨_, _, rfl, I64.mk (by omega) (by omega), I64.mk (by omega) (by omega)⟩, rfl,
      ((hr3.le (by omega)).setNew hB (by omega) _ _).setNew hB (by omega) _ _, gb_setNew (gb_setNew G3 (Nat.le_refl _) _ _) (Nat.le_refl _) _ _⟩
  | true =>
    go_wp2_with fail
    refine (pick hr3 (by omega) 2 (by decide)).mono ?_
    rintro e w4 ⟨v4, ⟨x4, rfl, l4, u4⟩, rfl, hr4, hg4⟩
    replace T4 := T4.kept hg4 (by simp; omega)
    replace T5 := T5.kept hg4 (by have := hr2.b_lt; simp; omega)
    replace G3 := gb_trans G3 hg4
    have hB := hr.below.size
    have zb2 := hr2.b_lt
    clear hg4
    by_cases h0 : x4 = 0
    · have h0' : (x4 == 0) = true := by simp [h0]
      clear h0
      go_wp2_with fail
      refine (pick (hr4.alloc _) (by omega) 2 (by decide)).mono ?_
      rintro e w5 ⟨v5, ⟨x5, rfl, l5, u5⟩, rfl, hr5, hg5⟩
      obtain ⟨x6, l6, u6, hc6⟩ := lit_cell w4 [-1, 4096] 3 (-1) 4096 (by intro x hx; simp at hx; omega) x5 l5 (by simp; omega)
      have hc7 := hg5.cell hc6 (by have := hr4.b_lt; simp; omega)
      clear hc6
      replace T4 := (T4.alloc _).kept hg5 (by simp; omega)
      replace T5 := (T5.alloc _).kept hg5 (by simp; omega)
      replace G3 := gb_trans G3 (gb_trans (World.grownBy_alloc _ _ _) hg5)
      clear hg5
      have u5' : x5 < 2 := by omega
      obtain ⟨p0, p1, _, _⟩ := T4
      obtain ⟨q0, q1, q2, q3⟩ := T5
      go_wp2_with fail
      exact bodyPost_ret (v := .agg #[.int .i64 x6, .int .i64 x2]) (by simp [results, Try.results57, go_sem, p0, p1]) rfl ⟨_, ⟨_, _, rfl, I64.mk (by omega) (by omega), I64.mk (by omega) (by omega)⟩, rfl,
        by repeat (first | exact hr5.le (by omega) | (refine Rd.setNew ?_ (by omega) (by omega) _ _)), by repeat (first | exact G3 | (refine gb_setNew ?_ (by omega) _ _))⟩
    · have h0' : (x4 == 0) = false := by simp [h0]
      clear h0
      go_wp2_with fail
      refine (pick (hr4.alloc _) (by omega) 2 (by decide)).mono ?_
      rintro e w5 ⟨v5, ⟨x5, rfl, l5, u5⟩, rfl, hr5, hg5⟩
      obtain ⟨x6, l6, u6, hc6⟩ := lit_cell w4 [-1, 4096] 3 (-1) 4096 (by intro x hx; simp at hx; omega) x5 l5 (by simp; omega)
      have hc7 := hg5.cell hc6 (by have := hr4.b_lt; simp; omega)
      clear hc6
      replace T4 := (T4.alloc _).kept hg5 (by simp; omega)
      replace T5 := (T5.alloc _).kept hg5 (by simp; omega)
      replace G3 := gb_trans G3 (gb_trans (World.grownBy_alloc _ _ _) hg5)
      clear hg5
      have u5' : x5 < 2 := by omega
      obtain ⟨p0, p1, _, _⟩ := T4
      obtain ⟨q0, q1, q2, q3⟩ := T5
      go_wp2_with fail
      exact bodyPost_ret (v := .agg #[.int .i64 x1, .int .i64 x6]) (by simp [results, Try.results57, go_sem, p0, p1]) rfl ⟨_, ⟨_, _, rfl, I64.mk (by omega) (by omega), I64.mk (by omega) (by omega)⟩, rfl,
        by repeat (first | exact hr5.le (by omega) | (refine Rd.setNew ?_ (by omega) (by omega) _ _)), by repeat (first | exact G3 | (refine gb_setNew ?_ (by omega) _ _))⟩
/-- What a drawing function of a whole code leaves. -/
def Draws (w : World) (V : Value → Prop) (e : Ending) (w' : World) : Prop := ∃ v, V v ∧ e = .returned v ∧ Below w.heap.size w w'
def IsPair (v : Value) : Prop := ∃ x y : Int, v = .tuple #[.int .i64 x, .int .i64 y] ∧ I64 x ∧ I64 y
def IsInt (v : Value) : Prop := ∃ x : Int, v = .int .i64 x ∧ I64 x
theorem drawAddRing (a : Option Addr) (n cap : Nat) (z : List Int) (w : World) (h : IsRow .u8 w a n cap z) : Calls Try.prog 50 #[.slice a n cap] w (Draws w IsPair) := by
  go_enter Try.func50, Try.ntmps50
  go_wp2_with fail
  refine (l20Open a n cap z w h).mono ?_
  rintro e w1 ⟨n', b, rfl, hr1, hg1⟩
  go_wp2_with fail
  refine (l20Ring hr1 (by decide) 12 (by decide)).mono ?_
  rintro e w2 ⟨v, ⟨x, rfl, l, u⟩, rfl, hr2, hg2⟩
  go_wp2_with fail
  refine (l20Ring hr2 (by decide) 12 (by decide)).mono ?_
  rintro e w3 ⟨v, ⟨y, rfl, l', u'⟩, rfl, hr3, hg3⟩
  go_wp2_with fail
  go_ret2
  exact ⟨_, ⟨_, _, rfl, I64.mk (by omega) (by omega), I64.mk (by omega) (by omega)⟩, rfl, hr3.below⟩
theorem drawSplitNumber (a : Option Addr) (n cap : Nat) (z : List Int) (w : World) (h : IsRow .u8 w a n cap z) : Calls Try.prog 15 #[.slice a n cap] w (Draws w IsPair) := by
  go_enter Try.func15, Try.ntmps15
  go_wp2_with fail
  refine (drawAddRing a n cap z w h).mono ?_
  rintro e w1 ⟨v, ⟨x, y, rfl, hx, hy⟩, rfl, hb⟩
  go_wp2_with fail
  go_ret2
  exact ⟨_, ⟨_, _, rfl, hx, hy⟩, rfl, hb⟩
theorem drawJoinShares (a : Option Addr) (n cap : Nat) (z : List Int) (w : World) (h : IsRow .u8 w a n cap z) : Calls Try.prog 21 #[.slice a n cap] w (Draws w IsShared) := by
  have T4 := Two.new w (.int .i64 0) (.int .i64 0) 26
  have h' : IsRow .u8 (w.alloc (.cells #[.int .i64 0, .int .i64 0] 26)) a n cap z := h.kept (World.grownBy_alloc _ _ _)
  go_enter Try.func21, Try.ntmps21
  go_wp2_with fail
  refine (l20Open a n cap z _ h').mono ?_
  rintro e w1 ⟨n', b, rfl, hr1, hg1⟩
  replace T4 := T4.kept hg1 (by simp)
  go_wp2_with fail
  refine (l20Shared hr1 (by decide) 9 (by decide)).mono ?_
  rintro e w2 ⟨v, ⟨x, y, rfl, hx, hy⟩, rfl, hr2, hg2⟩
  replace T4 := T4.kept hg2 (by have := hr1.b_ge; simp at this; simp; omega)
  obtain ⟨p0, p1, _, _⟩ := T4
  have hB := hr2.below
  clear hg1 hg2
  go_wp2_with fail
  exact bodyPost_ret (v := .agg #[.int .i64 x, .int .i64 y]) (by simp [results, Try.results21, go_sem, p0, p1]) rfl ⟨_, ⟨_, _, rfl, hx, hy⟩, rfl,
    (((((Below.refl _ w).alloc (Nat.le_refl _) _).trans (hB.mono (by simp))).setCell (Nat.le_refl _) _).setCell (Nat.le_refl _) _)⟩
end Go.Proofs.Ythcochdkclmejaa
