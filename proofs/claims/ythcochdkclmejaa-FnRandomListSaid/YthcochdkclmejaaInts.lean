/- The contracts of the statements' functions on lists of numbers: copies, comparisons, sizes, marks. Each returns what the plain definition says; a copy lies in new memory; a mark turns its own list alone. Conditions: lists of at most 2 to the 20 numbers where they are copied or marked. -/
import Derived.Test.YthcochdkclmejaaRand
import Derived.Test.YthcochdkclmejaaSees
import Derived.Deep.QuietTactic
import Derived.BigQuiet
namespace Go.Proofs.Ythcochdkclmejaa
open Go Go.RowKit

theorem gbt {a b c : World} {row : Option Nat} (h : a.grownBy b row) (k : b.grownBy c row) : a.grownBy c row :=
  ⟨k.os.trans h.os, k.tape.trans h.tape, k.output.trans h.output, Nat.le_trans h.size k.size, fun i hi hne => (k.block i (Nat.lt_of_lt_of_le hi h.size) hne).trans (h.block i hi hne)⟩

theorem IsRow.sees {w : World} {a : Option Addr} {len cap : Nat} {zs : List Int} (h : IsRow .i64 w a len cap zs) : ∃ xs : List Int, Sees w (.slice a len cap) xs ∧ xs.length = len := by
  rcases h with ⟨rfl, rfl, rfl, _⟩ | ⟨x, rfl, hl, hm, hz, hc, _⟩
  · exact ⟨[], ⟨none, 0, rfl, ⟨Nat.le_refl _, fun _ => rfl⟩, by decide, fun h => absurd rfl h⟩, rfl⟩
  · have hlen : (zs.take len).length = len := by rw [List.length_take]; omega
    refine ⟨zs.take len, ⟨_, cap, by rw [hlen], ⟨by omega, fun e => by cases e⟩, hm, fun hne => ?_⟩, hlen⟩
    have hpos : 0 < len := by rcases Nat.eq_zero_or_pos len with e | e; exact absurd (by rw [e]; rfl) hne; exact e
    obtain ⟨blk, off, spot⟩ := x
    have h0 := hc 0 (by omega)
    have hspot : spot = none := by simpa [Addr.add] using World.cell?_spot h0
    subst hspot
    refine ⟨blk, off, rfl, fun i hi => ?_⟩
    have h1 := hc i (by omega)
    have e : (zs.take len).getD i 0 = zs.getD i 0 := by
      rw [List.getD_eq_getElem?_getD, List.getD_eq_getElem?_getD, List.getElem?_take_of_lt (by omega)]
    rw [e]
    rcases Nat.eq_zero_or_pos i with rfl | hp
    · simpa [Addr.add] using h1
    · simpa [Addr.add, Nat.ne_of_gt hp] using h1
theorem gb_drew (w : World) (row : Option Nat) : w.grownBy w.drew row := ⟨rfl, rfl, rfl, Nat.le_refl _, fun _ _ _ => rfl⟩

theorem own_kept {w w' : World} {base n : Nat} {E : TypeId} {v : Value} {xs : List Value} (h : w.ownsRow base E 1 v n xs) (hg : w.grownBy w' none) : w'.ownsRow base E 1 v n xs :=
  h.kept hg (by cases v.ownBlock <;> simp)

set_option maxHeartbeats 400000 in
theorem toIntS (v : Value) (xs : List Int) (w : World) (h : Sees w v xs) (hn : xs.length ≤ 1048576) :
    Calls Try.prog 62 #[v] w fun e w' => ∃ v', e = .returned v' ∧ w'.ownsRow w.heap.size 3 1 v' xs.length (ints xs) ∧ w.grownBy w' none := by
  obtain ⟨i0, hi, hz0, hz1, hz2⟩ := info_parts info_int
  obtain ⟨a, cap, rfl, ⟨hl, _⟩, hm, hc⟩ := h
  go_enter Try.func62, Try.ntmps62
  go_wp2_with (at_make; refine wpList_make_full _ rfl _ _ 34 rfl w.heap.size 3 i0 (.int .i64 0) 1 Try.underlying34 hi hz0 hz1 _ _ _ _ xs.length rfl rfl rfl rfl ?b2 ?b3 ?b4 ?_)
  case b2 => rw [hz2]; omega
  case b3 => unfold maxLen; omega
  case b4 => exact Nat.le_refl _
  intro w1 hown1 hg1
  rw [made_zero, ← part_none (f := fun i => xs.getD i 0) (D := fun _ => false) (fun _ _ => rfl)] at hown1
  go_wp2
  go_loopw [4] (fun i wr => ∃ k : Nat, k ≤ xs.length ∧ i = .int .i64 k ∧ wr.ownsRow w.heap.size 3 1 (.slice (some ⟨w.heap.size, 0, none⟩) xs.length xs.length) xs.length (ints (part (fun i => xs.getD i 0) (fun _ => 0) xs.length (fun i => decide (i < k)))) ∧ w.grownBy wr none)
    (fun i _ => xs.length - (intOf i).toNat)
  case atStart => exact ⟨0, Nat.zero_le _, rfl, by simpa using hown1, hg1⟩
  case round =>
    obtain ⟨k, hk, rfl, hown, hg⟩ := hrel
    by_cases hlt : k < xs.length
    · obtain ⟨blk, off, rfl, hcell⟩ := hc (by intro e; rw [e] at hlt; simp at hlt)
      have hcl := hcell k hlt
      have hblk : blk < w.heap.size := World.block_lt_of_cell? w _ hcl
      have hck := hg.cell hcl (by simp)
      have hfz := hown.frozenAt k
      have hold := own_cell hown k hlt
      obtain ⟨s1, s2⟩ := own_stored hown k (xs.getD k 0)
      rw [part_set (f := fun i => xs.getD i 0) (D' := fun i => decide (i < k + 1)) (by intro i _; rw [Bool.eq_iff_iff]; simp; omega)] at s1
      have G : w.grownBy (wr.setCell ⟨w.heap.size, k, none⟩ (.int .i64 (xs.getD k 0))) none := gb_setNew hg (Nat.le_refl _) _ _
      have e : xs.getD k 0 = xs[k] := by simp [List.getD_eq_getElem?_getD, hlt]
      rw [e] at s1 G hck
      clear hcell hcl hown hg s2 hown1 hg1 hc e
      go_wp2
      go_roundw
      case rel => exact ⟨k + 1, by omega, by go_num, s1, G⟩
      case measure => simp [intOf]; omega
    · obtain rfl : k = xs.length := by omega
      go_wp2
      go_ret
      rw [part_all (by intro i hi; simpa using hi), range_getD] at hown
      exact ⟨_, rfl, hown, hg⟩
set_option maxHeartbeats 400000 in
theorem eqIntS (v v' : Value) (xs : List Int) (w : World) (h : Sees w v xs) (h' : Sees w v' xs) :
    Calls Try.prog 31 #[v, v'] w fun e w' => e = .returned (.bool true) ∧ w.grownBy w' none := by
  obtain ⟨a, cap, rfl, ⟨hl, _⟩, hm, hc⟩ := h
  obtain ⟨a', cap', rfl, ⟨hl', _⟩, hm', hc'⟩ := h'
  have hmax : xs.length ≤ 9223372036854775807 := by unfold maxLen at hm; omega
  have hlen : ((xs.length : Int) != xs.length) = false := by simp
  go_enter Try.func31, Try.ntmps31
  go_wp2
  go_loopw [5] (fun i wr => ∃ k : Nat, k ≤ xs.length ∧ i = .int .i64 k ∧ w.grownBy wr none)
    (fun i _ => xs.length - (intOf i).toNat)
  case atStart => exact ⟨0, Nat.zero_le _, rfl, World.grownBy.refl _ _⟩
  case round =>
    obtain ⟨k, hk, rfl, hg⟩ := hrel
    by_cases hlt : k < xs.length
    · have hne : xs ≠ [] := by intro e; rw [e] at hlt; simp at hlt
      obtain ⟨blk, off, rfl, hcell⟩ := hc hne
      obtain ⟨blk', off', rfl, hcell'⟩ := hc' hne
      have h1 := hg.cell (hcell k hlt) (by simp)
      have h2 := hg.cell (hcell' k hlt) (by simp)
      have e : xs.getD k 0 = xs[k] := by simp [List.getD_eq_getElem?_getD, hlt]
      rw [e] at h1 h2
      have hlti : (k : Int) < (xs.length : Int) := by omega
      clear hcell hcell' hc hc' e
      go_wp2
      go_quiet (fail)
      go_wp2
      go_roundw
      case rel => exact ⟨k + 1, by omega, by go_num, gbt hg ⟨rfl, rfl, rfl, Nat.le_refl _, fun _ _ _ => rfl⟩⟩
      case measure => simp [intOf]; omega
    · obtain rfl : k = xs.length := by omega
      go_wp2
      go_ret
      exact ⟨rfl, hg⟩
theorem szIntS (v : Value) (xs : List Int) (left : Int) (w : World) (h : Sees w v xs) (hl : 0 ≤ left ∧ left ≤ 1048576) :
    Calls Try.prog 60 #[v, .int .i64 left] w fun e w' => e = .returned (.int .i64 (szL xs left)) ∧ w = w' := by
  obtain ⟨a, cap, rfl, _, hm, _⟩ := h
  have hmax : xs.length ≤ 9223372036854775807 := by unfold maxLen at hm; omega
  obtain ⟨l1, l2⟩ := hl
  by_cases hlt : left < xs.length
  · have e : szL xs left = -1 := by unfold szL; rw [if_pos (by omega)]
    rw [e]
    clear e
    go_enter Try.func60, Try.ntmps60
    go_wp2
    go_ret
    exact ⟨rfl, rfl⟩
  · have e : szL xs left = left - xs.length := by unfold szL; rw [if_neg (by omega)]
    rw [e]
    clear e
    go_enter Try.func60, Try.ntmps60
    go_wp2
    go_ret
    exact ⟨rfl, rfl⟩
set_option maxHeartbeats 400000 in
theorem markIntS (base n : Nat) (v : Value) (xs : List Int) (k0 : Int) (w : World) (h : w.ownsRow base 3 1 v n (ints xs)) (hn : n ≤ 4194304) (hk0 : 0 ≤ k0 ∧ k0 ≤ 1099511627776) :
    Calls Try.prog 32 #[v, .int .i64 k0] w fun e w' => e = .returned (.int .i64 (k0 + n)) ∧ w'.ownsRow base 3 1 v n (ints (upFrom k0 n)) ∧ w.grownBy w' v.ownBlock := by
  obtain ⟨m1, m2⟩ := hk0
  have hlen := own_len h
  have h0 : w.ownsRow base 3 1 v n (ints (part (fun i => k0 + (i : Int)) (fun i => xs.getD i 0) n (fun i => decide (i < 0)))) := by
    rw [part_none (by intro i _; simp)]
    rw [← hlen, range_getD, hlen]
    exact h
  obtain ⟨a, cap, hv⟩ : ∃ a cap, v = .slice a n cap := by
    rcases h.2 with ⟨e, e0⟩ | ⟨g, cap, _, e, _⟩
    · exact ⟨_, _, by rw [e, e0]⟩
    · exact ⟨_, _, e⟩
  subst hv
  clear h
  go_enter Try.func32, Try.ntmps32
  go_wp2
  go_loopw [1, 5] (fun q i wr => ∃ k : Nat, k ≤ n ∧ i = .int .i64 k ∧ q = .int .i64 (k0 + k) ∧ wr.ownsRow base 3 1 (.slice a n cap) n (ints (part (fun i => k0 + (i : Int)) (fun i => xs.getD i 0) n (fun i => decide (i < k)))) ∧ w.grownBy wr (Value.slice a n cap).ownBlock)
    (fun _ i _ => n - (intOf i).toNat)
  case atStart => exact ⟨0, Nat.zero_le _, rfl, by simp, h0, World.grownBy.refl _ _⟩
  case round =>
    obtain ⟨k, hk, rfl, rfl, hown, hg⟩ := hrel
    by_cases hlt : k < n
    · obtain ⟨g, cap', he, hb1, hb2⟩ := own_form hown (by omega)
      cases he
      have hfz := hown.frozenAt k
      have hold := own_cell hown k hlt
      obtain ⟨s1, s2⟩ := own_stored hown k (k0 + (k : Int))
      rw [part_set (f := fun i => k0 + (i : Int)) (D' := fun i => decide (i < k + 1)) (by intro i _; rw [Bool.eq_iff_iff]; simp; omega)] at s1
      have G := gbt hg s2
      clear hown hg s2 h0
      go_wp2
      go_roundw
      case rel => exact ⟨k + 1, by omega, by go_num, by go_num, s1, G⟩
      case measure => simp [intOf]; omega
    · obtain rfl : k = n := by omega
      go_wp2
      go_ret
      rw [part_all (by intro i hi; simpa using hi)] at hown
      exact ⟨rfl, hown, hg⟩
set_option maxHeartbeats 400000 in
theorem heldIntS (n : Nat) (v : Value) (k0 : Int) (w : World) (h : Sees w v (upFrom k0 n)) (hn : n ≤ 4194304) (hk0 : 0 ≤ k0 ∧ k0 ≤ 1099511627776) :
    Calls Try.prog 33 #[v, .int .i64 k0] w fun e w' => e = .returned (.int .i64 (k0 + n)) ∧ w = w' := by
  obtain ⟨m1, m2⟩ := hk0
  obtain ⟨a, cap, rfl, ⟨hl, _⟩, hm, hc⟩ := h
  rw [upFrom_len] at hc ⊢
  go_enter Try.func33, Try.ntmps33
  go_wp2
  go_loop [1, 5] (fun q i => ∃ k : Nat, k ≤ n ∧ i = .int .i64 k ∧ q = .int .i64 (k0 + k))
    (fun _ i => n - (intOf i).toNat)
  case atStart => exact ⟨0, Nat.zero_le _, rfl, by simp⟩
  case round =>
    obtain ⟨k, hk, rfl, rfl⟩ := hrel
    by_cases hlt : k < n
    · obtain ⟨blk, off, rfl, hcell⟩ := hc (by intro e; have := upFrom_len k0 n; rw [e] at this; simp at this; omega)
      have h1 := hcell k hlt
      rw [upFrom_at hlt] at h1
      have ht : ((k0 + (k : Int)) != (k0 + (k : Int))) = false := by simp
      clear hcell hc
      go_wp2
      go_round
      case rel => exact ⟨k + 1, by omega, by go_num, by go_num⟩
      case measure => simp [intOf]; omega
    · obtain rfl : k = n := by omega
      go_wp2
      go_ret
      exact ⟨rfl, rfl⟩
end Go.Proofs.Ythcochdkclmejaa
