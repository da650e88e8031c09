/- How a slice of numbers is read, kept and owned: lemmas on worlds, no program in sight. -/
import Derived.Test.YthcochdkclmejaaMPlain
import Derived.WalkKit
namespace Go.Proofs.Ythcochdkclmejaa
open Go Go.RowKit

/-- A slice value that reads as the numbers xs in the world w. -/
def Sees (w : World) (v : Value) (xs : List Int) : Prop :=
  ∃ (a : Option Addr) (cap : Nat), v = .slice a xs.length cap ∧ (xs.length ≤ cap ∧ (a = none → cap = 0)) ∧ cap ≤ maxLen ∧
    (xs ≠ [] → ∃ blk off : Nat, a = some ⟨blk, off, none⟩ ∧ ∀ i, i < xs.length → w.cell? ⟨blk, off + i, none⟩ = some (.int .i64 (xs.getD i 0)))

theorem Sees.kept_row {w w' : World} {v : Value} {xs : List Int} {row : Option Nat} (h : Sees w v xs) (hg : w.grownBy w' row) (hne : v.ownBlock = none ∨ v.ownBlock ≠ row) : Sees w' v xs := by
  obtain ⟨a, cap, rfl, hl, hm, hc⟩ := h
  refine ⟨a, cap, rfl, hl, hm, fun hx => ?_⟩
  obtain ⟨blk, off, rfl, hcell⟩ := hc hx
  refine ⟨blk, off, rfl, fun i hi => hg.cell (hcell i hi) ?_⟩
  rcases hne with h | h
  · simp [Value.ownBlock] at h
  · exact h
theorem Sees.kept {w w' : World} {v : Value} {xs : List Int} (h : Sees w v xs) (hg : w.grownBy w' none) : Sees w' v xs := by
  refine h.kept_row hg ?_
  cases hv : v.ownBlock <;> simp
theorem Sees.of_own {w : World} {base n : Nat} {v : Value} {xs : List Int} {E : TypeId} (h : w.ownsRow base E 1 v n (xs.map (Value.int .i64))) : Sees w v xs := by
  have hlen : xs.length = n := by simpa using h.1
  rcases h.2 with ⟨rfl, h0⟩ | ⟨g, cap, cur, rfl, _, _, hn, hcap, _⟩
  · obtain rfl : xs = [] := List.eq_nil_of_length_eq_zero (by omega)
    exact ⟨none, 0, rfl, ⟨Nat.le_refl _, fun _ => rfl⟩, by decide, fun h => absurd rfl h⟩
  · refine ⟨_, cap, by rw [hlen], ⟨by omega, fun e => by cases e⟩, hcap, fun _ => ⟨g, 0, rfl, fun i hi => ?_⟩⟩
    have := h.cellAt i (by omega)
    rw [Nat.zero_add, this]
    simp [List.getD_eq_getElem?_getD, hi]
theorem Sees.len {w : World} {v : Value} {xs : List Int} (h : Sees w v xs) : xs.length ≤ maxLen := by
  obtain ⟨a, cap, rfl, ⟨hl, _⟩, hm, hc⟩ := h; omega
theorem own_len {w : World} {base n : Nat} {v : Value} {xs : List Int} {E : TypeId} (h : w.ownsRow base E 1 v n (xs.map (Value.int .i64))) : xs.length = n := by simpa using h.1

/-- A list that is partly f, partly still g. -/
def part (f g : Nat → Int) (n : Nat) (D : Nat → Bool) : List Int := (List.range n).map fun i => if D i then f i else g i
theorem part_len (f g : Nat → Int) (n : Nat) (D : Nat → Bool) : (part f g n D).length = n := by simp [part]
theorem part_congr {f g : Nat → Int} {n : Nat} {D D' : Nat → Bool} (h : ∀ i, i < n → D i = D' i) : part f g n D = part f g n D' := by
  unfold part
  apply List.map_congr_left
  intro i hi
  rw [h i (by simpa using hi)]
theorem part_set {f g : Nat → Int} {n j : Nat} {D D' : Nat → Bool} (h : ∀ i, i < n → D' i = (D i || i == j)) : (part f g n D).set j (f j) = part f g n D' := by
  apply List.ext_getElem (by simp [part])
  intro i h1 h2
  have hi : i < n := by simpa [part] using h2
  simp only [part, List.getElem_set, List.getElem_map, List.getElem_range]
  rw [h i hi]
  by_cases e : j = i
  · subst e; simp
  · have e' : (i == j) = false := by simp; omega
    simp [e, e']
theorem part_none {f g : Nat → Int} {n : Nat} {D : Nat → Bool} (h : ∀ i, i < n → D i = false) : part f g n D = (List.range n).map g := by
  unfold part
  apply List.map_congr_left
  intro i hi
  rw [h i (by simpa using hi)]; rfl
theorem part_all {f g : Nat → Int} {n : Nat} {D : Nat → Bool} (h : ∀ i, i < n → D i = true) : part f g n D = (List.range n).map f := by
  unfold part
  apply List.map_congr_left
  intro i hi
  rw [h i (by simpa using hi)]; rfl
theorem range_getD (xs : List Int) : (List.range xs.length).map (fun i => xs.getD i 0) = xs := by
  apply List.ext_getElem (by simp)
  intro i h1 h2
  simp [List.getD_eq_getElem?_getD, h2]
theorem made_zero (n : Nat) : (madeCells #[Value.int .i64 0] n).toList = ((List.range n).map (fun _ => (0 : Int))).map (Value.int .i64) := by
  rw [toList_madeCells_one]
  apply List.ext_getElem (by simp)
  intro i h1 h2
  simp
/-- The row behind a store of a number. -/
theorem own_stored {w : World} {base n g cap : Nat} {E : TypeId} {xs : List Int} (h : w.ownsRow base E 1 (.slice (some ⟨g, 0, none⟩) n cap) n (xs.map (Value.int .i64))) (j : Nat) (x : Int) :
    (w.setCell ⟨g, j, none⟩ (.int .i64 x)).ownsRow base E 1 (.slice (some ⟨g, 0, none⟩) n cap) n ((xs.set j x).map (Value.int .i64)) ∧ w.grownBy (w.setCell ⟨g, j, none⟩ (.int .i64 x)) (some g) := by
  have := h.stored j (.int .i64 x)
  rw [List.map_set]
  exact this
theorem own_cell {w : World} {base n g cap : Nat} {E : TypeId} {xs : List Int} (h : w.ownsRow base E 1 (.slice (some ⟨g, 0, none⟩) n cap) n (xs.map (Value.int .i64))) (j : Nat) (hj : j < n) : w.cell? ⟨g, j, none⟩ = some (.int .i64 (xs.getD j 0)) := by
  have hl := own_len h
  rw [h.cellAt j (by omega)]
  have hx : j < xs.length := by omega
  simp [List.getD_eq_getElem?_getD, hx]
theorem own_form {w : World} {base n : Nat} {E : TypeId} {v : Value} {xs : List Value} (h : w.ownsRow base E 1 v n xs) (hn : 0 < n) : ∃ g cap, v = .slice (some ⟨g, 0, none⟩) n cap ∧ base ≤ g ∧ g < w.heap.size := by
  rcases h.2 with ⟨_, h0⟩ | ⟨g, cap, cur, rfl, hb, hg, _⟩
  · omega
  · exact ⟨g, cap, rfl, hb, (Array.getElem?_eq_some_iff.1 hg).1⟩
theorem own_none {w : World} {base : Nat} {E : TypeId} {v : Value} {xs : List Value} (h : w.ownsRow base E 1 v 0 xs) : ∃ a cap, v = .slice a 0 cap := by
  rcases h.2 with ⟨rfl, _⟩ | ⟨g, cap, cur, rfl, _⟩
  · exact ⟨_, _, rfl⟩
  · exact ⟨_, _, rfl⟩
/-- What is left of a size. -/
def szL (xs : List Int) (left : Int) : Int := if left - xs.length < 0 then -1 else left - xs.length
theorem own_base {w : World} {b b' n : Nat} {E : TypeId} {v : Value} {xs : List Value} (h : w.ownsRow b E 1 v n xs) (hb : b' ≤ b) : w.ownsRow b' E 1 v n xs := by
  refine ⟨h.1, ?_⟩
  rcases h.2 with h0 | ⟨g, cap, cur, e1, e2, e3⟩
  · exact .inl h0
  · exact .inr ⟨g, cap, cur, e1, Nat.le_trans hb e2, e3⟩
theorem own_slice {w : World} {b n : Nat} {E : TypeId} {v : Value} {xs : List Value} (h : w.ownsRow b E 1 v n xs) : ∃ a cap, v = .slice a n cap := by
  rcases h.2 with ⟨rfl, rfl⟩ | ⟨g, cap, cur, rfl, _⟩
  · exact ⟨_, _, rfl⟩
  · exact ⟨_, _, rfl⟩
theorem szL_big {xs : List Int} {left : Int} (h : left < xs.length) : szL xs left = -1 := by unfold szL; rw [if_pos (by omega)]
theorem szL_ok {xs : List Int} {left : Int} (h : (xs.length : Int) ≤ left) : szL xs left = left - xs.length := by unfold szL; rw [if_neg (by omega)]
/-- Numbers one by one from k on. -/
def upFrom (k : Int) (n : Nat) : List Int := (List.range n).map fun i : Nat => k + (i : Int)
theorem upFrom_len (k : Int) (n : Nat) : (upFrom k n).length = n := by simp [upFrom]
theorem upFrom_at {k : Int} {n i : Nat} (h : i < n) : (upFrom k n).getD i 0 = k + (i : Int) := getD_range h
end Go.Proofs.Ythcochdkclmejaa
