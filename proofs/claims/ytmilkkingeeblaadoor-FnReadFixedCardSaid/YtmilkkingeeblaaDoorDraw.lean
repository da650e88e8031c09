/- The contracts of the drawing functions of ring numbers, seeds and shared numbers: each returns some number that fits 64 bits and turns nothing that was there. Conditions: the code is a readable slice of bytes. -/
import Derived.Test.YtmilkkingeeblaaDoorPick
namespace Go.Proofs.YtmilkkingeeblaaDoor
open Go Go.RowKit

/-- A cell of a new block whose cells are integers. -/
theorem lit_cell (w : World) (l : List Int) (T : TypeId) (lo hi : Int) (hl : ∀ x ∈ l, lo ≤ x ∧ x ≤ hi) (v : Int) (h0 : 0 ≤ v) (h1 : v < l.length) :
    ∃ x : Int, lo ≤ x ∧ x ≤ hi ∧ (w.alloc (.cells (l.map (Value.int .i64)).toArray T)).cell? ⟨w.heap.size, v.toNat, none⟩ = some (.int .i64 x) := by
  have hv : v.toNat < l.length := by omega
  have hm := hl (l[v.toNat]) (List.getElem_mem hv)
  refine ⟨l[v.toNat], hm.1, hm.2, ?_⟩
  rw [World.cell?_alloc_at _ _ _ _ rfl]
  simp [hv]

theorem lit_cellP (w : World) (l : List Int) (T : TypeId) (Pr : Int → Prop) (hl : ∀ x ∈ l, Pr x) (v : Int) (h0 : 0 ≤ v) (h1 : v < l.length) :
    ∃ x : Int, Pr x ∧ (w.alloc (.cells (l.map (Value.int .i64)).toArray T)).cell? ⟨w.heap.size, v.toNat, none⟩ = some (.int .i64 x) := by
  have hv : v.toNat < l.length := by omega
  refine ⟨l[v.toNat], hl _ (List.getElem_mem hv), ?_⟩
  rw [World.cell?_alloc_at _ _ _ _ rfl]
  simp [hv]
/-- A number of 64 bits, behind a name. -/
def I64 (x : Int) : Prop := -9223372036854775808 ≤ x ∧ x ≤ 9223372036854775807
theorem I64.mk {x : Int} (h1 : -9000000000000000000 ≤ x) (h2 : x ≤ 9000000000000000000) : I64 x := ⟨by omega, by omega⟩
theorem I64.wf {x : Int} (h : I64 x) : (Lit.int .i64 x).wf = true := i64_wf h.1 h.2

theorem odd {a : Option Addr} {n cap : Nat} {w0 w : World} {b P : Nat} (hr : Rd a n cap w0 w b P) (hP : P < 1000000) (m : Int) (hm : 0 ≤ m ∧ m ≤ 4294967296) :
    Calls Tryd.prog 29 #[.pointer (some ⟨b, 0, none⟩), .int .i64 m] w (Gives a n cap w0 w b (P + 1) IsBool) := by
  by_cases h : 0 < m
  · go_enter Tryd.func29, Tryd.ntmps29
    go_wp2_with fail
    refine (pick hr hP m ⟨by omega, hm.2⟩).mono ?_
    rintro e w1 ⟨v, ⟨x, rfl, hx⟩, rfl, hr1, hg1⟩
    go_wp2_with fail
    go_ret
    exact ⟨_, ⟨_, rfl⟩, rfl, hr1, hg1⟩
  · have h' : ¬ 0 < m := h
    go_enter Tryd.func29, Tryd.ntmps29
    go_wp2_with fail
    go_ret
    exact ⟨_, ⟨_, rfl⟩, rfl, hr.le (by omega), World.grownBy.refl _ _⟩
/-- With 0 it is never odd, and no byte is read. -/
theorem odd_zero (bb : Nat) (w : World) :
    Calls Tryd.prog 29 #[.pointer (some ⟨bb, 0, none⟩), .int .i64 0] w fun e w' => e = .returned (.bool false) ∧ w = w' := by
  go_enter Tryd.func29, Tryd.ntmps29
  go_wp2_with fail
  go_ret
  exact ⟨rfl, rfl⟩
theorem l20Ring {a : Option Addr} {n cap : Nat} {w0 w : World} {b P : Nat} (hr : Rd a n cap w0 w b P) (hP : P < 900000) (m : Int) (hm : 0 ≤ m ∧ m ≤ 4294967296) :
    Calls Tryd.prog 20 #[.pointer (some ⟨b, 0, none⟩), .int .i64 m] w (Gives a n cap w0 w b (P + 6) (IntIn (-1) 1099511627776)) := by
  go_enter Tryd.func20, Tryd.ntmps20
  go_wp2_with fail
  refine (pick hr (by omega) 256 (by decide)).mono ?_
  rintro e w1 ⟨v1, ⟨x1, rfl, l1, u1⟩, rfl, hr1, hg1⟩
  go_wp2_with fail
  refine (pick hr1 (by omega) 256 (by decide)).mono ?_
  rintro e w2 ⟨v2, ⟨x2, rfl, l2, u2⟩, rfl, hr2, hg2⟩
  go_wp2_with fail
  refine (l1Ring _ _).mono ?_
  rintro e w2' ⟨rfl, rfl⟩
  go_wp2_with fail
  refine (pick hr2 (by omega) 256 (by decide)).mono ?_
  rintro e w3 ⟨v3, ⟨x3, rfl, l3, u3⟩, rfl, hr3, hg3⟩
  go_wp2_with fail
  refine (pick (hr3.alloc _) (by omega) 8 (by decide)).mono ?_
  rintro e w4 ⟨v4, ⟨x4, rfl, l4, u4⟩, rfl, hr4, hg4⟩
  obtain ⟨x5, l5, u5, hc5⟩ := lit_cell w3 [x1 * 16, (x2 - 128) % 4096, x3, 0, 4095, 2048, 2047, 16] 3 (-1) 1099511627776 (by intro x hx; simp at hx; omega) x4 l4 (by simp; omega)
  have hc6 := hg4.cell hc5 (by have := hr3.b_lt; simp; omega)
  clear hc5
  have u4' : x4 < 8 := by omega
  go_wp2_with fail
  refine (odd hr4 (by omega) m hm).mono ?_
  rintro e w5 ⟨v5, ⟨o, rfl⟩, rfl, hr5, hg5⟩
  have G5 : w.grownBy w5 (some b) := gb_trans hg1 (gb_trans hg2 (gb_trans hg3 (gb_trans (World.grownBy_alloc _ _ _) (gb_trans hg4 hg5))))
  clear hc6 hg1 hg2 hg3 hg4 hg5
  cases o with
  | false =>
    go_wp2_with fail
    go_ret
    exact ⟨_, ⟨_, rfl, l5, u5⟩, rfl, hr5.le (by omega), G5⟩
  | true =>
    go_wp2_with fail
    refine (pick (hr5.alloc _) (by omega) 3 (by decide)).mono ?_
    rintro e w6 ⟨v6, ⟨x6, rfl, l6, u6⟩, rfl, hr6, hg6⟩
    obtain ⟨x7, l7, u7, hc7⟩ := lit_cell w5 [-1, 4096, 1099511627776] 3 (-1) 1099511627776 (by intro x hx; simp at hx; omega) x6 l6 (by simp; omega)
    have hc8 := hg6.cell hc7 (by have := hr5.b_lt; simp; omega)
    clear hc7
    have u6' : x6 < 3 := by omega
    go_wp2_with fail
    go_ret
    exact ⟨_, ⟨_, rfl, l7, u7⟩, rfl, hr6.le (by omega), gb_trans G5 (gb_trans (World.grownBy_alloc _ _ _) hg6)⟩
/-- What a drawing function of a whole code leaves. -/
def Draws (w : World) (V : Value → Prop) (e : Ending) (w' : World) : Prop := ∃ v, V v ∧ e = .returned v ∧ Below w.heap.size w w'
def IsPair (v : Value) : Prop := ∃ x y : Int, v = .tuple #[.int .i64 x, .int .i64 y] ∧ I64 x ∧ I64 y
def IsInt (v : Value) : Prop := ∃ x : Int, v = .int .i64 x ∧ I64 x
theorem drawFixedText (a : Option Addr) (n cap : Nat) (z : List Int) (w : World) (h : IsRow .u8 w a n cap z) : Calls Tryd.prog 9 #[.slice a n cap] w (Draws w IsInt) := by
  go_enter Tryd.func9, Tryd.ntmps9
  go_wp2_with fail
  refine (l20Open a n cap z w h).mono ?_
  rintro e w1 ⟨n', b, rfl, hr1, hg1⟩
  go_wp2_with fail
  refine (l20Ring hr1 (by decide) 6 (by decide)).mono ?_
  rintro e w2 ⟨v, ⟨x, rfl, l, u⟩, rfl, hr2, hg2⟩
  go_wp2_with fail
  go_ret
  exact ⟨_, ⟨_, rfl, I64.mk (by omega) (by omega)⟩, rfl, hr2.below⟩
end Go.Proofs.YtmilkkingeeblaaDoor
