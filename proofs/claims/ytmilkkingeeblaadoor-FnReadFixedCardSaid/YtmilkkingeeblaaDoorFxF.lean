/- The contracts of the drawing functions of FixedText and ReadFixed: each returns some number of 64 bits or some short text and turns nothing that was there. Conditions: the code is a readable slice of bytes. -/
import Derived.Test.YtmilkkingeeblaaDoorDraw
import Derived.Test.YtmilkkingeeblaaDoorFxE
namespace Go.Proofs.YtmilkkingeeblaaDoor
open Go Go.RowKit

theorem gb_of_below {w w' : World} (h : Below w.heap.size w w') : w.grownBy w' none := ⟨h.os, h.tape, h.output, h.size, fun k hk _ => h.block k hk⟩

/-- A short text. -/
def IsText (v : Value) : Prop := ∃ l : List UInt8, v = .string (bs l) ∧ l.length ≤ 1000
theorem numT_len (n : Nat) : (numT n).length ≤ 8 := by
  have := d3_len (n / 16)
  have := frac_len (n % 16)
  unfold numT; split <;> simp <;> omega
theorem fixT_len (x : Int) : (fixT x).length ≤ 9 := by
  have := numT_len (sgn x).natAbs
  unfold fixT; split
  · split <;> simp <;> omega
  · simp
/-- A cell of a new block of short strings. -/
theorem str_cell (w : World) (l : List ByteArray) (T : TypeId) (hl : ∀ s ∈ l, s.size ≤ 1000) (v : Int) (h0 : 0 ≤ v) (h1 : v < l.length) :
    ∃ t : List UInt8, t.length ≤ 1000 ∧ (w.alloc (.cells (l.map Value.string).toArray T)).cell? ⟨w.heap.size, v.toNat, none⟩ = some (.string (bs t)) := by
  have hv : v.toNat < l.length := by omega
  have hm := hl (l[v.toNat]) (List.getElem_mem hv)
  refine ⟨(l[v.toNat]).data.toList, by rw [← Lib.size_eq]; exact hm, ?_⟩
  rw [World.cell?_alloc_at _ _ _ _ rfl, ← bs_of]
  simp [hv]

set_option maxHeartbeats 1000000 in
theorem drawReadFixed (a : Option Addr) (n cap : Nat) (z : List Int) (w : World) (h : IsRow .u8 w a n cap z) : Calls Tryd.prog 14 #[.slice a n cap] w (Draws w IsText) := by
  go_enter Tryd.func14, Tryd.ntmps14
  go_wp2_with fail
  refine (l20Open a n cap z w h).mono ?_
  rintro e w1 ⟨n', b, rfl, hr1, hg1⟩
  go_wp2_with fail
  refine (l20Ring hr1 (by decide) 0 (by decide)).mono ?_
  rintro e w2 ⟨v, ⟨x, rfl, l, u⟩, rfl, hr2, hg2⟩
  go_wp2_with fail
  refine (fixedText_s x w2).mono ?_
  rintro e w3 ⟨rfl, hb3⟩
  have hr3 : Rd a n' cap w w3 b (0 + 6) := hr2.kept (gb_of_below hb3) (fun _ e => by cases e)
  have hT := fixT_len x
  obtain ⟨t, et⟩ : ∃ t, fixT x = t := ⟨_, rfl⟩
  rw [et] at hT ⊢
  clear et
  go_wp2_with fail
  refine (odd hr3 (by decide) 3 (by decide)).mono ?_
  rintro e w4 ⟨v4, ⟨o, rfl⟩, rfl, hr4, hg4⟩
  cases o with
  | false =>
    go_wp2_with fail
    go_ret
    exact ⟨_, ⟨_, rfl, by omega⟩, rfl, hr4.below⟩
  | true =>
    have k1 : ∀ W, (Op.stringOp .add (bs t) ⟨#[32]⟩).run Tryd.prog W = .ok (.string (bs (t ++ [32]))) W := fun W => bs_add t [32] (by omega) (by simp) W
    go_wp2_with fail
    refine (pick (hr4.alloc _) (by decide) 16 (by decide)).mono ?_
    rintro e w5 ⟨v5, ⟨x5, rfl, l5, u5⟩, rfl, hr5, hg5⟩
    obtain ⟨t6, l6, hc6⟩ := str_cell w4 [⟨#[]⟩, ⟨#[45]⟩, ⟨#[45, 48]⟩, ⟨#[48, 48]⟩, ⟨#[43, 49]⟩, ⟨#[49, 46]⟩, ⟨#[46, 53]⟩, ⟨#[49, 46, 53, 48]⟩, ⟨#[49, 46, 51]⟩, ⟨#[49, 50, 56]⟩, ⟨#[45, 49, 50, 56]⟩, ⟨#[49, 50, 55, 46, 57, 51, 55, 53]⟩, ⟨#[45, 49, 50, 56, 46, 48, 54, 50, 53]⟩, ⟨#[49, 46, 48, 54, 50, 53, 48]⟩, ⟨#[97]⟩, bs (t ++ [32])] 9 (by
      intro s hs
      have : (bs (t ++ [32])).size ≤ 1000 := by rw [bs_size]; simp; omega
      simp only [List.mem_cons, List.not_mem_nil, or_false] at hs
      rcases hs with rfl | rfl | rfl | rfl | rfl | rfl | rfl | rfl | rfl | rfl | rfl | rfl | rfl | rfl | rfl | rfl
      all_goals first | exact this | decide) x5 l5 (by simp; omega)
    have hc7 := hg5.cell hc6 (by have := hr4.b_lt; simp; omega)
    clear hc6
    have u5' : x5 < 16 := by omega
    go_wp2_with fail
    go_ret
    exact ⟨_, ⟨t6, rfl, l6⟩, rfl, hr5.below⟩
end Go.Proofs.YtmilkkingeeblaaDoor
