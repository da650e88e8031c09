/- The contracts of the draws of two matrices: two matrices in new memory, nothing that was there turned. Conditions: the code is a readable slice of bytes. -/
import Derived.Test.YtfnajbifdilfmaaMDraw
import Derived.Test.YtfnajbifdilfmaaPair
namespace Go.Proofs.Ytfnajbifdilfmaa
open Go Go.RowKit

/-- Two drawn matrices in new memory. -/
def TwoMats (w : World) (e : Ending) (w' : World) : Prop :=
  ∃ (r c : Int) (g1 cap : Nat) (xs : List Int) (r' c' : Int) (g2 cap' : Nat) (ys : List Int),
    e = .returned (.tuple #[.agg #[.int .i64 r, .int .i64 c, .slice (some ⟨g1, 0, none⟩) xs.length cap], .agg #[.int .i64 r', .int .i64 c', .slice (some ⟨g2, 0, none⟩) ys.length cap']]) ∧ xs.length ≤ 36 ∧ ys.length ≤ 36 ∧
    Sees w' (.slice (some ⟨g1, 0, none⟩) xs.length cap) xs ∧ Sees w' (.slice (some ⟨g2, 0, none⟩) ys.length cap') ys ∧ w.grownBy w' none ∧ w.heap.size ≤ g1 ∧ w.heap.size ≤ g2
theorem seesSet {w : World} {g o n cap B : Nat} {xs : List Int} (h : Sees w (.slice (some ⟨g, o, none⟩) n cap) xs) (hne : g ≠ B) (k : Nat) (v : Value) : Sees (w.setCell ⟨B, k, none⟩ v) (.slice (some ⟨g, o, none⟩) n cap) xs :=
  h.kept_row (gb_setCell w B k v) (Or.inr (by intro e; simp [Value.ownBlock] at e <;> omega))
theorem cell_far {w : World} {b' o B k : Nat} {u v : Value} (h : w.cell? ⟨B, k, none⟩ = some v) (hne : b' ≠ B) : (w.setCell ⟨b', o, none⟩ u).cell? ⟨B, k, none⟩ = some v :=
  (World.cell?_setCell_other _ _ _ _ (by intro e; cases e; exact hne rfl)).trans h
theorem tmod5 (y : Int) (l : 1 ≤ y) : 0 ≤ y.tmod 5 ∧ y.tmod 5 ≤ 4 := by
  rw [Int.tmod_eq_emod_of_nonneg (by omega)]; omega
theorem W2 (w : World) : Three ((w.alloc (.cells #[.int .i64 0, .int .i64 0, .slice none 0 0] 26)).alloc (.cells #[.int .i64 0, .int .i64 0, .slice none 0 0] 26)) w.heap.size (.int .i64 0) (.int .i64 0) (.slice none 0 0) ∧
    Three ((w.alloc (.cells #[.int .i64 0, .int .i64 0, .slice none 0 0] 26)).alloc (.cells #[.int .i64 0, .int .i64 0, .slice none 0 0] 26)) (w.heap.size + 1) (.int .i64 0) (.int .i64 0) (.slice none 0 0) ∧
    w.grownBy ((w.alloc (.cells #[.int .i64 0, .int .i64 0, .slice none 0 0] 26)).alloc (.cells #[.int .i64 0, .int .i64 0, .slice none 0 0] 26)) none :=
  ⟨(Three.new w _ _ _ _).alloc _, by simpa using Three.new (w.alloc (.cells #[.int .i64 0, .int .i64 0, .slice none 0 0] 26)) (.int .i64 0) (.int .i64 0) (.slice none 0 0) 26, gbt (World.grownBy_alloc _ _ _) (World.grownBy_alloc _ _ _)⟩
set_option maxHeartbeats 1600000 in
theorem drawAddMatrices (a : Option Addr) (n cap : Nat) (z : List Int) (w : World) (h : IsRow .u8 w a n cap z) : Calls Try.prog 30 #[.slice a n cap] w (TwoMats w) := by
  obtain ⟨T2, T3, G0⟩ := W2 w
  have h0 := h.kept G0
  go_enter Try.func30, Try.ntmps30
  go_wp2_with fail
  refine (l20Open a n cap z _ h0).mono ?_
  rintro e w1 ⟨n', b, rfl, hr1, hg1⟩
  go_wp2_with fail
  refine (l20Side hr1 (by decide)).mono ?_
  rintro e w2 ⟨v, ⟨x, rfl, lx, ux⟩, rfl, hr2, hg2⟩
  go_wp2_with fail
  refine (l20Side hr2 (by decide)).mono ?_
  rintro e w3 ⟨v, ⟨y, rfl, ly, uy⟩, rfl, hr3, hg3⟩
  go_wp2_with fail
  refine (l20Matrix hr3 (by decide) x y 12 ⟨lx, ux⟩ ⟨ly, uy⟩ (by decide)).mono ?_
  rintro e w4 ⟨v, ⟨r, c, a4, cap4, xs, rfl, ir, ic, hl, hl1, ho⟩, rfl, hr4, hg4⟩
  obtain ⟨g1, cp, he, gl, gu⟩ := own_form ho (by omega)
  obtain ⟨rfl, rfl⟩ : a4 = some ⟨g1, 0, none⟩ ∧ cap4 = cp := by simpa using he
  have hb3 := hr3.b_lt
  have hbw := hr3.b_ge
  have hz3 := hr3.below.size
  simp at hz3 hbw
  have m4 := hg4.size
  have hx := (Sees.of_own ho).alloc (.cells #[.int .i64 r, .int .i64 c, .slice (some ⟨g1, 0, none⟩) xs.length cap4] 26)
  have TB := Three.new w4 (.int .i64 r) (.int .i64 c) (.slice (some ⟨g1, 0, none⟩) xs.length cap4) 26
  replace hr4 := hr4.alloc (.cells #[.int .i64 r, .int .i64 c, .slice (some ⟨g1, 0, none⟩) xs.length cap4] 26)
  clear hr1 hr2 hr3 hg1 hg2 hg3 hg4 ho he ir ic h h0
  go_wp2_with fail
  refine (odd hr4 (by decide) 9 (by decide)).mono ?_
  rintro e w5 ⟨v, ⟨o, rfl⟩, rfl, hr5, hg5⟩
  replace TB := TB.kept hg5 (by intro e; simp at e <;> omega)
  replace hx := hx.kept_row hg5 (Or.inr (by intro e; simp [Value.ownBlock] at e <;> omega))
  have m5 := hg5.size
  simp at m5
  clear hg5 hr4
  have hn1 : w.heap.size ≠ w4.heap.size := by omega
  have hn2 : w.heap.size + 1 ≠ w4.heap.size := by omega
  have ht := tmod5 y (by omega)
  have ew1 : IntKind.i64.wrap (y.tmod 5) = y.tmod 5 := by rw [IntKind.wrap_i64]; omega
  have ew2 : IntKind.i64.wrap (1 + y.tmod 5) = 1 + y.tmod 5 := by rw [IntKind.wrap_i64]; omega
  have HM : Hid (∀ w', w5.grownBy w' (some b) → w'.cell? ⟨w4.heap.size, 0, none⟩ = some (.int .i64 r) ∧ w'.cell? ⟨w4.heap.size, 1, none⟩ = some (.int .i64 c) ∧ w'.cell? ⟨w4.heap.size, 2, none⟩ = some (.slice (some ⟨g1, 0, none⟩) xs.length cap4)) := fun w' h =>
    ⟨(TB.kept h (by intro e; simp at e <;> omega)).c0, (TB.kept h (by intro e; simp at e <;> omega)).c1, (TB.kept h (by intro e; simp at e <;> omega)).c2⟩
  have hr5d := hr5.kept (gb_drew _ none) (fun _ e => by cases e)
  have hxd := hx.kept (gb_drew _ none)
  have md : w5.heap.size ≤ w5.drew.heap.size := Nat.le_refl _
  have p0 := TB.c0
  have p1 := TB.c1
  have p2 := TB.c2
  clear hx TB hr5
  cases o with
  | true =>
    go_wp2_with fail
    go_region_held3 (fun w' => w'.cell? ⟨w4.heap.size, 0, none⟩ = some (.int .i64 r) ∧ w'.cell? ⟨w4.heap.size, 1, none⟩ = some (.int .i64 c) ∧ w'.cell? ⟨w4.heap.size, 2, none⟩ = some (.slice (some ⟨g1, 0, none⟩) xs.length cap4))
      (first | exact HM.out _ (by with_reducible first | assumption | exact gb_drew _ _) | (refine ⟨?_, ?_, ?_⟩ <;> (repeat (with_reducible first | exact u0 | exact u1 | exact u2 | refine cell_far ?_ (by first | exact hn1 | exact hn2)))))
      (first | (go_at_call 67; refine (l20Matrix hr5d (by decide) (x) (_) 12 ⟨lx, ux⟩ ⟨by omega, by omega⟩ (by decide)).mono ?_; rintro e w6 ⟨v, ⟨r', c', a6, cap6, ys, rfl, ir', ic', hl', hl1', ho2⟩, rfl, hr6, hg6⟩; have m6 := hg6.size; have hx6 := hxd.kept_row hg6 (Or.inr (by intro e; simp [Value.ownBlock] at e <;> omega)); have hgd2 := gb_trans (gb_drew w5 (some b)) hg6; obtain ⟨u0, u1, u2⟩ := HM.out _ hgd2; obtain ⟨g2, cp2, he2, gl2, gu2⟩ := own_form ho2 (by omega); obtain ⟨rfl, rfl⟩ : a6 = some ⟨g2, 0, none⟩ ∧ cap6 = cp2 := (by simpa using he2); have hy := Sees.of_own ho2; obtain ⟨s0, s1, s2, s3, s4, s5⟩ := T2.kept (below_gb hr6.below) (by simp); obtain ⟨t0, t1, t2, t3, t4, t5⟩ := T3.kept (below_gb hr6.below) (by simp); have hG := gbt G0 (below_gb hr6.below); clear hr6 ho2 he2 T2 T3 G0))
    go_wp2_with fail
    clear u0 u1 u2
    exact bodyPost_ret (v := .tuple #[.agg #[.int .i64 r, .int .i64 c, .slice (some ⟨g1, 0, none⟩) xs.length cap4], .agg #[.int .i64 r', .int .i64 c', .slice (some ⟨g2, 0, none⟩) ys.length cap6]]) (by simp [results, Try.results30, go_sem, s0, s1, s2, t0, t1, t2]) rfl
      ⟨r, c, g1, cap4, xs, r', c', g2, cap6, ys, rfl, by omega, by omega, by repeat (with_reducible first | exact hx6 | refine seesSet ?_ (by omega) _ _), by repeat (with_reducible first | exact hy | refine seesSet ?_ (by omega) _ _), by repeat (with_reducible first | exact hG | refine gb_setNew ?_ (by omega) _ _), by omega, by omega⟩
  | false =>
    go_wp2_with fail
    go_region_held3 (fun w' => w'.cell? ⟨w4.heap.size, 0, none⟩ = some (.int .i64 r) ∧ w'.cell? ⟨w4.heap.size, 1, none⟩ = some (.int .i64 c) ∧ w'.cell? ⟨w4.heap.size, 2, none⟩ = some (.slice (some ⟨g1, 0, none⟩) xs.length cap4))
      (first | exact HM.out _ (by with_reducible first | assumption | exact gb_drew _ _) | (refine ⟨?_, ?_, ?_⟩ <;> (repeat (with_reducible first | exact u0 | exact u1 | exact u2 | refine cell_far ?_ (by first | exact hn1 | exact hn2)))))
      (first | (go_at_call 67; refine (l20Matrix hr5d (by decide) (x) (y) 12 ⟨lx, ux⟩ ⟨ly, uy⟩ (by decide)).mono ?_; rintro e w6 ⟨v, ⟨r', c', a6, cap6, ys, rfl, ir', ic', hl', hl1', ho2⟩, rfl, hr6, hg6⟩; have m6 := hg6.size; have hx6 := hxd.kept_row hg6 (Or.inr (by intro e; simp [Value.ownBlock] at e <;> omega)); have hgd2 := gb_trans (gb_drew w5 (some b)) hg6; obtain ⟨u0, u1, u2⟩ := HM.out _ hgd2; obtain ⟨g2, cp2, he2, gl2, gu2⟩ := own_form ho2 (by omega); obtain ⟨rfl, rfl⟩ : a6 = some ⟨g2, 0, none⟩ ∧ cap6 = cp2 := (by simpa using he2); have hy := Sees.of_own ho2; obtain ⟨s0, s1, s2, s3, s4, s5⟩ := T2.kept (below_gb hr6.below) (by simp); obtain ⟨t0, t1, t2, t3, t4, t5⟩ := T3.kept (below_gb hr6.below) (by simp); have hG := gbt G0 (below_gb hr6.below); clear hr6 ho2 he2 T2 T3 G0))
    go_wp2_with fail
    clear u0 u1 u2
    exact bodyPost_ret (v := .tuple #[.agg #[.int .i64 r, .int .i64 c, .slice (some ⟨g1, 0, none⟩) xs.length cap4], .agg #[.int .i64 r', .int .i64 c', .slice (some ⟨g2, 0, none⟩) ys.length cap6]]) (by simp [results, Try.results30, go_sem, s0, s1, s2, t0, t1, t2]) rfl
      ⟨r, c, g1, cap4, xs, r', c', g2, cap6, ys, rfl, by omega, by omega, by repeat (with_reducible first | exact hx6 | refine seesSet ?_ (by omega) _ _), by repeat (with_reducible first | exact hy | refine seesSet ?_ (by omega) _ _), by repeat (with_reducible first | exact hG | refine gb_setNew ?_ (by omega) _ _), by omega, by omega⟩
set_option maxHeartbeats 1600000 in
theorem drawSubMatrices (a : Option Addr) (n cap : Nat) (z : List Int) (w : World) (h : IsRow .u8 w a n cap z) : Calls Try.prog 31 #[.slice a n cap] w (TwoMats w) := by
  obtain ⟨T2, T3, G0⟩ := W2 w
  have h0 := h.kept G0
  go_enter Try.func31, Try.ntmps31
  go_wp2_with fail
  refine (drawAddMatrices a n cap z _ h0).mono ?_
  rintro e w1 ⟨r, c, g1, cap4, xs, r', c', g2, cap6, ys, rfl, hl, hl', hx6, hy, hg, gl, gl2⟩
  simp at gl gl2
  obtain ⟨s0, s1, s2, s3, s4, s5⟩ := T2.kept hg (by simp)
  obtain ⟨t0, t1, t2, t3, t4, t5⟩ := T3.kept hg (by simp)
  have hG := gbt G0 hg
  clear T2 T3 h0 h hg G0
  go_wp2_with fail
  exact bodyPost_ret (v := .tuple #[.agg #[.int .i64 r, .int .i64 c, .slice (some ⟨g1, 0, none⟩) xs.length cap4], .agg #[.int .i64 r', .int .i64 c', .slice (some ⟨g2, 0, none⟩) ys.length cap6]]) (by simp [results, Try.results31, go_sem, s0, s1, s2, t0, t1, t2]) rfl
      ⟨r, c, g1, cap4, xs, r', c', g2, cap6, ys, rfl, by omega, by omega, by repeat (with_reducible first | exact hx6 | refine seesSet ?_ (by omega) _ _), by repeat (with_reducible first | exact hy | refine seesSet ?_ (by omega) _ _), by repeat (with_reducible first | exact hG | refine gb_setNew ?_ (by omega) _ _), by omega, by omega⟩
set_option maxHeartbeats 1600000 in
theorem drawMulMatrices (a : Option Addr) (n cap : Nat) (z : List Int) (w : World) (h : IsRow .u8 w a n cap z) : Calls Try.prog 25 #[.slice a n cap] w (TwoMats w) := by
  obtain ⟨T2, T3, G0⟩ := W2 w
  have h0 := h.kept G0
  go_enter Try.func25, Try.ntmps25
  go_wp2_with fail
  refine (l20Open a n cap z _ h0).mono ?_
  rintro e w1 ⟨n', b, rfl, hr1, hg1⟩
  go_wp2_with fail
  refine (l20Side hr1 (by decide)).mono ?_
  rintro e w2 ⟨v, ⟨x, rfl, lx, ux⟩, rfl, hr2, hg2⟩
  go_wp2_with fail
  refine (l20Side hr2 (by decide)).mono ?_
  rintro e w3 ⟨v, ⟨y, rfl, ly, uy⟩, rfl, hr3, hg3⟩
  go_wp2_with fail
  refine (l20Matrix hr3 (by decide) y x 12 ⟨ly, uy⟩ ⟨lx, ux⟩ (by decide)).mono ?_
  rintro e w4 ⟨v, ⟨r, c, a4, cap4, xs, rfl, ir, ic, hl, hl1, ho⟩, rfl, hr4, hg4⟩
  obtain ⟨g1, cp, he, gl, gu⟩ := own_form ho (by omega)
  obtain ⟨rfl, rfl⟩ : a4 = some ⟨g1, 0, none⟩ ∧ cap4 = cp := by simpa using he
  have hb3 := hr3.b_lt
  have hbw := hr3.b_ge
  have hz3 := hr3.below.size
  simp at hz3 hbw
  have m4 := hg4.size
  have hx := (Sees.of_own ho).alloc (.cells #[.int .i64 r, .int .i64 c, .slice (some ⟨g1, 0, none⟩) xs.length cap4] 26)
  have TB := Three.new w4 (.int .i64 r) (.int .i64 c) (.slice (some ⟨g1, 0, none⟩) xs.length cap4) 26
  replace hr4 := hr4.alloc (.cells #[.int .i64 r, .int .i64 c, .slice (some ⟨g1, 0, none⟩) xs.length cap4] 26)
  clear hr1 hr2 hr3 hg1 hg2 hg3 hg4 ho he ir ic h h0
  go_wp2_with fail
  refine (odd hr4 (by decide) 9 (by decide)).mono ?_
  rintro e w5 ⟨v, ⟨o, rfl⟩, rfl, hr5, hg5⟩
  replace TB := TB.kept hg5 (by intro e; simp at e <;> omega)
  replace hx := hx.kept_row hg5 (Or.inr (by intro e; simp [Value.ownBlock] at e <;> omega))
  have m5 := hg5.size
  simp at m5
  clear hg5 hr4
  have hn1 : w.heap.size ≠ w4.heap.size := by omega
  have hn2 : w.heap.size + 1 ≠ w4.heap.size := by omega
  have ht := tmod5 x (by omega)
  have ew1 : IntKind.i64.wrap (x.tmod 5) = x.tmod 5 := by rw [IntKind.wrap_i64]; omega
  have ew2 : IntKind.i64.wrap (1 + x.tmod 5) = 1 + x.tmod 5 := by rw [IntKind.wrap_i64]; omega
  have HM : Hid (∀ w', w5.grownBy w' (some b) → w'.cell? ⟨w4.heap.size, 0, none⟩ = some (.int .i64 r) ∧ w'.cell? ⟨w4.heap.size, 1, none⟩ = some (.int .i64 c) ∧ w'.cell? ⟨w4.heap.size, 2, none⟩ = some (.slice (some ⟨g1, 0, none⟩) xs.length cap4)) := fun w' h =>
    ⟨(TB.kept h (by intro e; simp at e <;> omega)).c0, (TB.kept h (by intro e; simp at e <;> omega)).c1, (TB.kept h (by intro e; simp at e <;> omega)).c2⟩
  have hr5d := hr5.kept (gb_drew _ none) (fun _ e => by cases e)
  have hxd := hx.kept (gb_drew _ none)
  have md : w5.heap.size ≤ w5.drew.heap.size := Nat.le_refl _
  have p0 := TB.c0
  have p1 := TB.c1
  have p2 := TB.c2
  clear hx TB hr5
  cases o with
  | true =>
    go_wp2_with fail
    go_region_held3 (fun w' => w'.cell? ⟨w4.heap.size, 0, none⟩ = some (.int .i64 r) ∧ w'.cell? ⟨w4.heap.size, 1, none⟩ = some (.int .i64 c) ∧ w'.cell? ⟨w4.heap.size, 2, none⟩ = some (.slice (some ⟨g1, 0, none⟩) xs.length cap4))
      (first | exact HM.out _ (by with_reducible first | assumption | exact gb_drew _ _) | (refine ⟨?_, ?_, ?_⟩ <;> (repeat (with_reducible first | exact u0 | exact u1 | exact u2 | refine cell_far ?_ (by first | exact hn1 | exact hn2)))))
      (first | (go_at_call 66; refine (l20Side hr5d (by decide)).mono ?_; rintro e w7 ⟨v, ⟨q, rfl, lq, uq⟩, rfl, hr7, hg7⟩; have m7 := hg7.size; have hx7 := hxd.kept_row hg7 (Or.inr (by intro e; simp [Value.ownBlock] at e <;> omega)); have hgd := gb_trans (gb_drew w5 (some b)) hg7; clear hxd hr5d) | (go_at_call 67; refine (l20Matrix hr7 (by decide) (_) (q) 12 ⟨by omega, by omega⟩ ⟨lq, uq⟩ (by decide)).mono ?_; rintro e w6 ⟨v, ⟨r', c', a6, cap6, ys, rfl, ir', ic', hl', hl1', ho2⟩, rfl, hr6, hg6⟩; have m6 := hg6.size; have hx6 := hx7.kept_row hg6 (Or.inr (by intro e; simp [Value.ownBlock] at e <;> omega)); have hgd2 := gb_trans hgd hg6; obtain ⟨u0, u1, u2⟩ := HM.out _ hgd2; obtain ⟨g2, cp2, he2, gl2, gu2⟩ := own_form ho2 (by omega); obtain ⟨rfl, rfl⟩ : a6 = some ⟨g2, 0, none⟩ ∧ cap6 = cp2 := (by simpa using he2); have hy := Sees.of_own ho2; obtain ⟨s0, s1, s2, s3, s4, s5⟩ := T2.kept (below_gb hr6.below) (by simp); obtain ⟨t0, t1, t2, t3, t4, t5⟩ := T3.kept (below_gb hr6.below) (by simp); have hG := gbt G0 (below_gb hr6.below); clear hr6 ho2 he2 T2 T3 G0))
    go_wp2_with fail
    clear u0 u1 u2
    exact bodyPost_ret (v := .tuple #[.agg #[.int .i64 r, .int .i64 c, .slice (some ⟨g1, 0, none⟩) xs.length cap4], .agg #[.int .i64 r', .int .i64 c', .slice (some ⟨g2, 0, none⟩) ys.length cap6]]) (by simp [results, Try.results25, go_sem, s0, s1, s2, t0, t1, t2]) rfl
      ⟨r, c, g1, cap4, xs, r', c', g2, cap6, ys, rfl, by omega, by omega, by repeat (with_reducible first | exact hx6 | refine seesSet ?_ (by omega) _ _), by repeat (with_reducible first | exact hy | refine seesSet ?_ (by omega) _ _), by repeat (with_reducible first | exact hG | refine gb_setNew ?_ (by omega) _ _), by omega, by omega⟩
  | false =>
    go_wp2_with fail
    go_region_held3 (fun w' => w'.cell? ⟨w4.heap.size, 0, none⟩ = some (.int .i64 r) ∧ w'.cell? ⟨w4.heap.size, 1, none⟩ = some (.int .i64 c) ∧ w'.cell? ⟨w4.heap.size, 2, none⟩ = some (.slice (some ⟨g1, 0, none⟩) xs.length cap4))
      (first | exact HM.out _ (by with_reducible first | assumption | exact gb_drew _ _) | (refine ⟨?_, ?_, ?_⟩ <;> (repeat (with_reducible first | exact u0 | exact u1 | exact u2 | refine cell_far ?_ (by first | exact hn1 | exact hn2)))))
      (first | (go_at_call 66; refine (l20Side hr5d (by decide)).mono ?_; rintro e w7 ⟨v, ⟨q, rfl, lq, uq⟩, rfl, hr7, hg7⟩; have m7 := hg7.size; have hx7 := hxd.kept_row hg7 (Or.inr (by intro e; simp [Value.ownBlock] at e <;> omega)); have hgd := gb_trans (gb_drew w5 (some b)) hg7; clear hxd hr5d) | (go_at_call 67; refine (l20Matrix hr7 (by decide) (x) (q) 12 ⟨lx, ux⟩ ⟨lq, uq⟩ (by decide)).mono ?_; rintro e w6 ⟨v, ⟨r', c', a6, cap6, ys, rfl, ir', ic', hl', hl1', ho2⟩, rfl, hr6, hg6⟩; have m6 := hg6.size; have hx6 := hx7.kept_row hg6 (Or.inr (by intro e; simp [Value.ownBlock] at e <;> omega)); have hgd2 := gb_trans hgd hg6; obtain ⟨u0, u1, u2⟩ := HM.out _ hgd2; obtain ⟨g2, cp2, he2, gl2, gu2⟩ := own_form ho2 (by omega); obtain ⟨rfl, rfl⟩ : a6 = some ⟨g2, 0, none⟩ ∧ cap6 = cp2 := (by simpa using he2); have hy := Sees.of_own ho2; obtain ⟨s0, s1, s2, s3, s4, s5⟩ := T2.kept (below_gb hr6.below) (by simp); obtain ⟨t0, t1, t2, t3, t4, t5⟩ := T3.kept (below_gb hr6.below) (by simp); have hG := gbt G0 (below_gb hr6.below); clear hr6 ho2 he2 T2 T3 G0))
    go_wp2_with fail
    clear u0 u1 u2
    exact bodyPost_ret (v := .tuple #[.agg #[.int .i64 r, .int .i64 c, .slice (some ⟨g1, 0, none⟩) xs.length cap4], .agg #[.int .i64 r', .int .i64 c', .slice (some ⟨g2, 0, none⟩) ys.length cap6]]) (by simp [results, Try.results25, go_sem, s0, s1, s2, t0, t1, t2]) rfl
      ⟨r, c, g1, cap4, xs, r', c', g2, cap6, ys, rfl, by omega, by omega, by repeat (with_reducible first | exact hx6 | refine seesSet ?_ (by omega) _ _), by repeat (with_reducible first | exact hy | refine seesSet ?_ (by omega) _ _), by repeat (with_reducible first | exact hG | refine gb_setNew ?_ (by omega) _ _), by omega, by omega⟩
end Go.Proofs.Ytfnajbifdilfmaa
