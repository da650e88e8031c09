/- The contracts of matrices: validity (program and reference), copies, comparisons, marks. Each returns what the plain definition says; new memory at most, but for marks. Conditions: at most 2 to the 20 values where they are copied or marked. -/
import Derived.Test.YthcochdkclmejaaInts
namespace Go.Proofs.Ythcochdkclmejaa
open Go Go.RowKit

/-- A block of three cells of one's own: a matrix. -/
structure Three (w : World) (B : Nat) (x y z : Value) : Prop where
  c0 : w.cell? ⟨B, 0, none⟩ = some x
  c1 : w.cell? ⟨B, 1, none⟩ = some y
  c2 : w.cell? ⟨B, 2, none⟩ = some z
  f0 : w.frozen? ⟨B, 0, none⟩ = false
  f1 : w.frozen? ⟨B, 1, none⟩ = false
  f2 : w.frozen? ⟨B, 2, none⟩ = false
theorem Three.new (w : World) (x y z : Value) (T : TypeId) : Three (w.alloc (.cells #[x, y, z] T)) w.heap.size x y z :=
  ⟨by rw [World.cell?_alloc_at _ _ _ _ rfl]; rfl, by rw [World.cell?_alloc_at _ _ _ _ rfl]; rfl, by rw [World.cell?_alloc_at _ _ _ _ rfl]; rfl, World.frozen?_alloc_at _ _ _ _ rfl, World.frozen?_alloc_at _ _ _ _ rfl, World.frozen?_alloc_at _ _ _ _ rfl⟩
theorem Three.kept {w w' : World} {B : Nat} {x y z : Value} {row : Option Nat} (h : Three w B x y z) (hg : w.grownBy w' row) (hne : some B ≠ row) : Three w' B x y z := by
  have hlt : B < w.heap.size := World.block_lt_of_cell? w _ h.c0
  have hf := fun o => World.frozen?_of_block (w := w) (a := ⟨B, o, none⟩) (hg.block B hlt hne)
  exact ⟨hg.cell h.c0 hne, hg.cell h.c1 hne, hg.cell h.c2 hne, (hf 0).trans h.f0, (hf 1).trans h.f1, (hf 2).trans h.f2⟩
theorem Three.alloc {w : World} {B : Nat} {x y z : Value} (h : Three w B x y z) (o : Obj) : Three (w.alloc o) B x y z := h.kept (World.grownBy_alloc w o none) (by simp)
theorem Three.lt {w : World} {B : Nat} {x y z : Value} (h : Three w B x y z) : B < w.heap.size := World.block_lt_of_cell? w _ h.c0
theorem Sees.alloc {w : World} {v : Value} {xs : List Int} (h : Sees w v xs) (o : Obj) : Sees (w.alloc o) v xs := h.kept (World.grownBy_alloc w o none)

set_option maxHeartbeats 400000 in
theorem sameInts (v v' : Value) (xs : List Int) (w : World) (h : Sees w v xs) (h' : Sees w v' xs) :
    Calls Try.prog 35 #[v, v'] w fun e w' => e = .returned (.bool true) ∧ w.grownBy w' none := by
  obtain ⟨a, cap, rfl, ⟨hl, _⟩, hm, hc⟩ := h
  obtain ⟨a', cap', rfl, ⟨hl', _⟩, hm', hc'⟩ := h'
  have hmax : xs.length ≤ 9223372036854775807 := by unfold maxLen at hm; omega
  have hlen : ((xs.length : Int) != xs.length) = false := by simp
  go_enter Try.func35, Try.ntmps35
  go_wp2
  go_loopw [5] (fun i wr => ∃ k : Nat, k ≤ xs.length ∧ i = .int .i64 k ∧ w.grownBy wr none)
    (fun i _ => xs.length - (intOf i).toNat)
  case atStart => exact ⟨0, Nat.zero_le _, rfl, World.grownBy.refl _ _⟩
  case round =>
    obtain ⟨k, hk, rfl, hg⟩ := hrel
    by_cases hlt : k < xs.length
    · have hne : xs ≠ [] := by intro e; rw [e] at hlt; simp at hlt
      obtain ⟨blk, off, rfl, hcell⟩ := hc hne
      obtain ⟨blk', off', rfl, hcell'⟩ := hc' hne
      have h1 := hg.cell (hcell k hlt) (by simp)
      have h2 := hg.cell (hcell' k hlt) (by simp)
      have e : xs.getD k 0 = xs[k] := by simp [List.getD_eq_getElem?_getD, hlt]
      rw [e] at h1 h2
      have hlti : (k : Int) < (xs.length : Int) := by omega
      clear hcell hcell' hc hc' e
      go_wp2
      go_quiet (fail)
      go_wp2
      go_roundw
      case rel => exact ⟨k + 1, by omega, by go_num, gbt hg ⟨rfl, rfl, rfl, Nat.le_refl _, fun _ _ _ => rfl⟩⟩
      case measure => simp [intOf]; omega
    · obtain rfl : k = xs.length := by omega
      go_wp2
      go_ret
      exact ⟨rfl, hg⟩
theorem sideValid (n : Int) (w : World) : Calls Try.prog 63 #[.int .i64 n] w fun e w' => e = .returned (.bool (sd n)) ∧ w = w' := by
  by_cases h : 1 ≤ n
  · go_enter Try.func63, Try.ntmps63
    go_wp2
    go_ret
    exact ⟨ret_bool (by simp [sd, h]), rfl⟩
  · go_enter Try.func63, Try.ntmps63
    go_wp2
    go_ret
    exact ⟨ret_bool (by simp [sd]; omega), rfl⟩
theorem all_no {xs : List Int} {k : Nat} (hk : k < xs.length) (h : rv xs[k] = false) : xs.all rv = false := by
  rw [List.all_eq_false]; exact ⟨xs[k], List.getElem_mem hk, by simp [h]⟩
theorem all_yes {xs : List Int} (h : ∀ j, (hj : j < xs.length) → rv xs[j] = true) : xs.all rv = true := by
  rw [List.all_eq_true]
  intro x hx
  obtain ⟨j, hj, rfl⟩ := List.getElem_of_mem hx
  exact h j hj
theorem allRing (v : Value) (xs : List Int) (w : World) (h : Sees w v xs) : Calls Try.prog 64 #[v] w fun e w' => e = .returned (.bool (xs.all rv)) ∧ w = w' := by
  obtain ⟨a, cap, rfl, ⟨hl, _⟩, hm, hc⟩ := h
  have hmax : xs.length ≤ 9223372036854775807 := by unfold maxLen at hm; omega
  go_enter Try.func64, Try.ntmps64
  go_wp2
  go_loop [4, 7] (fun _ i => ∃ k : Nat, k ≤ xs.length ∧ i = .int .i64 k ∧ Hid (∀ j, (hj : j < k) → (hx : j < xs.length) → rv xs[j] = true))
    (fun _ i => xs.length - (intOf i).toNat)
  case atStart => exact ⟨0, Nat.zero_le _, rfl, fun j hj => by omega⟩
  case round =>
    obtain ⟨k, hk, rfl, hall⟩ := hrel
    by_cases hlt : k < xs.length
    · have hne : xs ≠ [] := by intro e; rw [e] at hlt; simp at hlt
      obtain ⟨blk, off, rfl, hcell⟩ := hc hne
      have h1 := hcell k hlt
      have e : xs.getD k 0 = xs[k] := by simp [List.getD_eq_getElem?_getD, hlt]
      rw [e] at h1
      clear hcell hc e
      by_cases hr : rv xs[k] = true
      · go_wp2_with (go_at_call 51; refine (ringValid _ _).mono ?_; rintro e w' ⟨rfl, rfl⟩)
        go_round
        case rel =>
          refine ⟨k + 1, by omega, by go_num, fun j hj hx => ?_⟩
          by_cases e : j = k
          · subst e; exact hr
          · exact hall.out j (by omega) hx
        case measure => simp [intOf]; omega
      · have hr' : rv xs[k] = false := by simpa using hr
        have hend : Hid (xs.all rv = false) := all_no hlt hr'
        clear hr
        go_wp2_with (go_at_call 51; refine (ringValid _ _).mono ?_; rintro e w' ⟨rfl, rfl⟩)
        go_ret
        exact ⟨ret_bool hend.out.symm, rfl⟩
    · obtain rfl : k = xs.length := by omega
      have hend : Hid (xs.all rv = true) := all_yes (fun j hj => hall.out j hj hj)
      go_wp2
      go_ret
      exact ⟨ret_bool hend.out.symm, rfl⟩
theorem mv_r {r c : Int} {xs : List Int} (h : sd r = false) : mv r c xs = false := by simp [mv, h]
theorem mv_c {r c : Int} {xs : List Int} (h : sd c = false) : mv r c xs = false := by simp [mv, h]
theorem mv_l {r c : Int} {xs : List Int} (h : ¬ (xs.length : Int) = r * c) : mv r c xs = false := by simp [mv, h]
theorem mv_a {r c : Int} {xs : List Int} (hr : sd r = true) (hc : sd c = true) (h : (xs.length : Int) = r * c) : mv r c xs = xs.all rv := by simp [mv, hr, hc, h]
theorem mv_v {r c : Int} {xs : List Int} (h : xs.all rv = false) : mv r c xs = false := by simp [mv, h]
set_option maxHeartbeats 400000 in
theorem matrixValid (r c : Int) (v : Value) (xs : List Int) (w : World) (h : Sees w v xs) : Calls Try.prog 26 #[.agg #[.int .i64 r, .int .i64 c, v]] w fun e w' => e = .returned (.bool (mv r c xs)) ∧ w.grownBy w' none := by
  have hv := h
  have G : w.grownBy (w.alloc (.cells #[.int .i64 r, .int .i64 c, v] 39)) none := World.grownBy_alloc _ _ _
  obtain ⟨a, cap, rfl, ⟨hl, _⟩, hm, _⟩ := h
  have hmax : xs.length ≤ 9223372036854775807 := by unfold maxLen at hm; omega
  by_cases hr : sd r = true
  · by_cases hc : sd c = true
    · have r1 := sd_iff.1 hr
      have c1 := sd_iff.1 hc
      have rc := sq_bd (a := r) (b := c) (M := 5) (by omega) r1.2 (by omega) c1.2
      by_cases hlen : (xs.length : Int) = r * c
      · have hd : ((xs.length : Int) == r * c) = true := by simp [hlen]
        rw [mv_a hr hc hlen]
        have hv' := hv.kept G
        clear hlen hv
        go_enter Try.func26, Try.ntmps26
        go_wp2_with (first | (go_at_call 63; refine (sideValid _ _).mono ?_; rintro e w' ⟨rfl, rfl⟩) | (go_at_call 64; refine (allRing _ _ _ hv').mono ?_; rintro e w' ⟨rfl, rfl⟩))
        go_ret
        exact ⟨rfl, G⟩
      · have hd : ((xs.length : Int) == r * c) = false := by simp [hlen]
        rw [mv_l hlen]
        clear hlen hv
        go_enter Try.func26, Try.ntmps26
        go_wp2_with (first | (go_at_call 63; refine (sideValid _ _).mono ?_; rintro e w' ⟨rfl, rfl⟩))
        go_ret
        exact ⟨rfl, G⟩
    · have hc' : sd c = false := by simpa using hc
      rw [mv_c hc']
      go_enter Try.func26, Try.ntmps26
      go_wp2_with (first | (go_at_call 63; refine (sideValid _ _).mono ?_; rintro e w' ⟨rfl, rfl⟩))
      go_ret
      exact ⟨rfl, G⟩
  · have hr' : sd r = false := by simpa using hr
    rw [mv_r hr']
    go_enter Try.func26, Try.ntmps26
    go_wp2_with (first | (go_at_call 63; refine (sideValid _ _).mono ?_; rintro e w' ⟨rfl, rfl⟩))
    go_ret
    exact ⟨rfl, G⟩
set_option maxHeartbeats 1000000 in
theorem matrixValid_s (r c : Int) (v : Value) (xs : List Int) (w : World) (h : Sees w v xs) : Calls Try.prog 24 #[.agg #[.int .i64 r, .int .i64 c, v]] w fun e w' => e = .returned (.bool (mv r c xs)) ∧ w.grownBy w' none := by
  have G : w.grownBy (w.alloc (.cells #[.int .i64 r, .int .i64 c, v] 39)) none := World.grownBy_alloc _ _ _
  obtain ⟨a, cap, rfl, ⟨hl, _⟩, hm, hcl⟩ := h
  have hmax : xs.length ≤ 9223372036854775807 := by unfold maxLen at hm; omega
  go_enter Try.func24, Try.ntmps24
  go_wp2
  go_loop [3] (fun i => ∃ k : Nat, k ≤ xs.length ∧ i = .int .i64 k ∧ Hid (∀ j, (hj : j < k) → (hx : j < xs.length) → rv xs[j] = true))
    (fun i => xs.length - (intOf i).toNat)
  case atStart => exact ⟨0, Nat.zero_le _, rfl, fun j hj => by omega⟩
  case round =>
    obtain ⟨k, hk, rfl, hall⟩ := hrel
    by_cases hlt : k < xs.length
    · have hne : xs ≠ [] := by intro e; rw [e] at hlt; simp at hlt
      obtain ⟨blk, off, rfl, hcell⟩ := hcl hne
      have h1 := G.cell (hcell k hlt) (by simp)
      have e : xs.getD k 0 = xs[k] := by simp [List.getD_eq_getElem?_getD, hlt]
      rw [e] at h1
      clear hcell hcl e
      by_cases hr : rv xs[k] = true
      · go_wp2_with (go_at_call 54; refine (ringValid_s _ _).mono ?_; rintro e w' ⟨rfl, rfl⟩)
        go_round
        case rel =>
          refine ⟨k + 1, by omega, by go_num, fun j hj hx => ?_⟩
          by_cases e : j = k
          · subst e; exact hr
          · exact hall.out j (by omega) hx
        case measure => simp [intOf]; omega
      · have hr' : rv xs[k] = false := by simpa using hr
        have hend : Hid (mv r c xs = false) := mv_v (all_no hlt hr')
        clear hr
        go_wp2_with (go_at_call 54; refine (ringValid_s _ _).mono ?_; rintro e w' ⟨rfl, rfl⟩)
        go_ret
        exact ⟨ret_bool hend.out.symm, G⟩
    · obtain rfl : k = xs.length := by omega
      have hend : Hid (xs.all rv = true) := all_yes (fun j hj => hall.out j hj hj)
      clear hall hcl
      by_cases hr : sd r = true
      · have r1 := sd_iff.1 hr
        have r2 : decide (1 ≤ r ∧ r ≤ 5) = true := hr
        by_cases hc : sd c = true
        · have c1 := sd_iff.1 hc
          have c2 : decide (1 ≤ c ∧ c ≤ 5) = true := hc
          have rc := sq_bd (a := r) (b := c) (M := 5) (by omega) r1.2 (by omega) c1.2
          by_cases hlen : (xs.length : Int) = r * c
          · have hd : ((xs.length : Int) == r * c) = true := by simp [hlen]
            have he : Hid (mv r c xs = true) := (mv_a hr hc hlen).trans hend.out
            clear hlen
            go_wp2_with (go_at_call 61; refine (l1In _ _ _ _).mono ?_; rintro e w' ⟨rfl, rfl⟩)
            go_ret
            exact ⟨ret_bool he.out.symm, G⟩
          · have hd : ((xs.length : Int) == r * c) = false := by simp [hlen]
            have he : Hid (mv r c xs = false) := mv_l hlen
            clear hlen
            go_wp2_with (go_at_call 61; refine (l1In _ _ _ _).mono ?_; rintro e w' ⟨rfl, rfl⟩)
            go_ret
            exact ⟨ret_bool he.out.symm, G⟩
        · have c2 : decide (1 ≤ c ∧ c ≤ 5) = false := (by simpa using hc : sd c = false)
          have he : Hid (mv r c xs = false) := mv_c c2
          go_wp2_with (go_at_call 61; refine (l1In _ _ _ _).mono ?_; rintro e w' ⟨rfl, rfl⟩)
          go_ret
          exact ⟨ret_bool he.out.symm, G⟩
      · have r2 : decide (1 ≤ r ∧ r ≤ 5) = false := (by simpa using hr : sd r = false)
        have he : Hid (mv r c xs = false) := mv_r r2
        go_wp2_with (go_at_call 61; refine (l1In _ _ _ _).mono ?_; rintro e w' ⟨rfl, rfl⟩)
        go_ret
        exact ⟨ret_bool he.out.symm, G⟩
end Go.Proofs.Ythcochdkclmejaa
